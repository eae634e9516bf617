/-Maps with integers as keys-/
import Derived.Test.YteoackkadadmdaaGreatDoorEcI
set_option linter.all false
namespace Go.Mx
open Go Go.Proofs
variable {N i:Nat} {h:T O} {o o0:O} {v:V}
set_option maxRecDepth 1000000
def Fs(o:O):Prop:=∀c e w,o≠.cells c e w
def Sl.o8{l:List V}(s:Sl h N v l)(g:h.get i=some o0)(ho:Fs o0):Sl (h.set i o) N v l:=s.bV (D:=fun j=>j=i) ⟨aW _,fun j _ hj=>by rw[T.ag,ar hj]⟩ fun j hj hc=>by
 subst hc
 rcases s with⟨_,rfl|rfl⟩|⟨j',o',cp,c,e,rw,rfl,_,h3,_⟩
 ·simp[cR]at hj
 ·simp[cR]at hj
 ·simp[cR]at hj
  subst hj
  rw[g]at h3
  exact absurd (pk h3) (ho _ _ _)
def dZ.o8{l:List Rat}(s:dZ h N v l)(g:h.get i=some o0)(ho:Fs o0):dZ (h.set i o) N v l:=by
 obtain⟨⟨cs,h1,h2,h3⟩,h4⟩:=s
 have bB:∀j∈cR v,¬j=i:=fun j hj hc=>by
  obtain⟨z,w,hz⟩:=h4 j hj
  rw[hc,g]at hz
  exact absurd (pk hz) (ho _ _ _)
 have hI:∀{x:V} {z:Int},In h N x z->In (h.set i o) N x z:=fun s=>by
  rcases s with s|⟨i,o,l,c,s1,s2,s3⟩
  ·exact .inl s
  ·exact .inr ⟨i,o,l,c,s1,Sl.o8 s2 g ho,s3⟩
 refine⟨⟨cs,h1.bV (D:=fun j=>j=i) ⟨aW _,fun j _ hj=>by rw[T.ag,ar hj]⟩ bB,h2,fun j q hq=>?_⟩,fun j hj=>by rw[T.ag,ar (bB j hj)];exact h4 j hj⟩
 obtain⟨c,a,n1,u1,n2,u2,e,s1,s2⟩:=h3 j q hq
 exact⟨c,a,n1,u1,n2,u2,e,hI s1,hI s2⟩
def iC.o8{N0:Nat}{m:List (List Rat)}(s:iC N0 h N v m)(g:h.get i=some o0)(ho:Fs o0):iC N0 (h.set i o) N v m:=by
 obtain⟨us,⟨hl,h1⟩,h2,h3,h4⟩:=s
 refine⟨us,⟨hl,?_⟩,h2,h3,fun j l hl=>?_⟩
 ·rcases h1 with h1|⟨j,a,b,c,d⟩
  ·exact .inl h1
  ·refine .inr ⟨j,a,b,c,?_⟩
   rw[T.ag,ar]
   ·exact d
   ·rintro rfl
    rw[g]at d
    exact absurd (pk d) (ho _ _ _)
 ·obtain⟨u,g1,g2⟩:=h4 j l hl
  exact⟨u,g1,g2.o8 g ho⟩
variable {N z:Nat} {h:T O} {u v:V} {w:List Nat}
def A.b136:av:=sr [mN 2]
 (.seq (sr [mv 3 0,ge 4 (.bin .eql (.aM .slice) true (tq 3) (.const .aa))]
 (cd 4
 (sr [mN 2]
 (.ret))
 (.skip)))
 (sr [ge 5 (.aV 103 4 0 [] []),mv 6 0,ge 7 (.append 4 64 103 [.int .i64 0,.aa,.int .i64 0,.aa] (tq 5) (tq 6)),mv 2 7]
 (.ret)))
def A.c136:A.F 136=some ⟨8,[.tmp 2],A.b136⟩:=by kernel_rfl
def A.k136:=@A.kk 136 _ _ _ A.c136 rfl
def Ft(N0:Nat)(h:T O)(N:Nat)(v:V)(l:List Rat):Prop:=∃cs:List (List V),Own 4 103 N0 h N v cs/\(cs=[]->v=.aa)/\cs.length=l.length/\∀(j:Nat) (q:Rat),l[j]?=some q->∃c,cs[j]?=some c/\fW h N c q
def ZI{c:List V}{z o:Nat}:∀{l:List (List V)},(∀(j:Nat) (x:List V),l[j]?=some x->aE c (o+j*z) z=some x)->o+l.length*z<=c.length->aE c o (l.length*z)=some l.flatten
 |[],_,h=>by
  unfold aE
  rw[aF (by simpa using h)]
  simp
 |x::t,h,hl=>by
  have h0:=h 0 x rfl
  rw[Nat.zero_mul,ka]at h0
  have ih:=ZI (c:=c) (z:=z) (o:=o+z) (l:=t) (fun j y hy=>by
   have:=h (j+1) y hy
   rw[iW,Nat.one_mul]at this
   rw[show o+z+j*z=o+(j*z+z) by omega]
   exact this) (by rw[bD,iW,Nat.one_mul]at hl;omega)
  obtain⟨_,e1⟩:=J4 h0
  obtain⟨_,e2⟩:=J4 ih
  unfold aE
  rw[aF hl,bD,iW,Nat.one_mul,Nat.add_comm (t.length*z) z,List.take_add,List.drop_drop,List.flatten_cons,e2,<-e1]
def HX{l:List (List V)}(s:Sn z h N u l):eD ⟨h,N,w⟩ z u=some (l.length,l.flatten):=by
 rcases s with⟨rfl,rfl|rfl⟩|⟨i,o,cp,c,e,oC,rfl,_,h3,h4,h5,_⟩
 ·rfl
 ·rfl
 ·have:=ZI h4 h5
  simp[eD,St.row,h3,this]
def TN{e:TypeId}{N0:Nat}{l xs:List (List V)}{bytes:Nat}{Y:V->Prop}(s:Own z e N0 h N v l)(hn:l=[]->v=.aa)(hY:∀c∈l,∀y∈c,Y y)(hN:N0<=N)(hz:0<z)(hx:∀x∈xs,x.length=z)(h0:0<xs.length)(hu:eD ⟨h,N,w⟩ z u=some (xs.length,xs.flatten))(hb:2*(l.length+xs.length)*bytes<=281474976710656):
  ∃v' h' w',gj ⟨h,N,w⟩ z bytes e v u=some (v',⟨h',N+1,w'⟩)/\ax N0 w'=ax N0 w/\ab h N0 h' (N+1)/\dP (fun i=>i∈cR v) h N h' (N+1)/\mr e Y h v/\Own z e N0 h' (N+1) v' (l++xs):=by
 obtain⟨hl,s⟩:=s
 have jS:∀y∈l++xs,y.length=z:=fun y hy=>by
  rcases kb.1 hy with hy|hy
  ·exact hl y hy
  ·exact hx y hy
 have rQ:z≠0:=by omega
 have J5:xs.length≠0:=by omega
 rcases s with⟨rfl,rfl⟩|⟨i,rfl,h2,h3,h4⟩
 ·refine⟨.slice N 0 xs.length none z,h.set N (.cells xs.flatten e true),w,?_,rfl,⟨by omega,fun j hj=>by rw[T.ag,ar (by omega)]⟩,⟨uz _,fun j hj _=>by rw[T.ag,ar (by omega)]⟩,mr.nil,jS,.inr ⟨N,by simp,hN,by omega,by rw[T.ag];simp⟩⟩
  have rT:2*xs.length*bytes<=281474976710656:=by simpa using hb
  simp only[gj,hu,tJ,St.alloc]
  simp[rT,rQ,J5]
 ·have nI:=BF hl
  have hmul:(l.length+xs.length)*z=l.length*z+xs.length*z:=iW ..
  have qi:0<xs.length*z:=zc h0 hz
  refine⟨.slice N 0 (l.length+xs.length) none z,(h.set i .dead).set N (.cells (l.flatten++xs.flatten) e true),i::w,?_,by simp[ax,sH.2 h2],⟨by omega,fun j hj=>by rw[T.ag,ar (by omega),T.ag,ar (by omega)]⟩,⟨uz _,fun j hj hd=>?_⟩,fun j hj=>?_,jS,.inr ⟨N,by simp,hN,by omega,by rw[T.ag];simp⟩⟩
  ·simp only[gj,hu,tJ,St.row,h4]
   rw[ar J5,ar (by rintro(h|h|h)<;>omega)]
   simp only[if_true]
   rw[ar (by rw[nI];omega),aF ⟨by rw[nI];omega,trivial,trivial⟩]
   rfl
  ·rw[T.ag,ar (by omega),T.ag,ar (fun hc=>hd (by simp[cR,hc]))]
  ·simp only[cR,wC]at hj
   subst hj
   refine⟨_,h4,fun hc=>?_,fun y hy=>?_⟩
   ·rw[hc]at nI
    have:l.length=0:=by
     rcases Nat.mul_eq_zero.1 nI.symm with h|h
     ·exact h
     ·omega
    have:=hn (qj this)
    cases this
   ·obtain⟨c,hc,uA⟩:=List.mem_flatten.1 hy
    exact hY c hc y uA
def Ft.many{N0:Nat}{a b:List Rat}(s:Ft N0 h N v a)(hu:kM h N u b)(h0:0<b.length)(hN:N0<=N)(hl:a.length+b.length<100000):
  ∃v' h' w',gj ⟨h,N,w⟩ 4 64 103 v u=some (v',⟨h',N+1,w'⟩)/\ax N0 w'=ax N0 w/\ab h N0 h' (N+1)/\Ft N0 h' (N+1) v' (a++b):=by
 obtain⟨cs,h1,h2,h3,h4⟩:=s
 obtain⟨ds,d1,d2,d3⟩:=hu
 have dl:∀x∈ds,x.length=4:=fun x hx=>by
  obtain⟨j,hj⟩:=zb hx
  obtain⟨r,hr⟩:=bp (l:=b) (k:=j) (by have:=j_ hj;omega)
  obtain⟨c',g1,g2⟩:=d3 j r hr
  rw[hj]at g1
  obtain rfl:x=c':=by simpa using g1
  exact g2.len.1
 obtain⟨v',h',w',f1,f2,f3,f4,fD,f5⟩:=TN (Y:=NW) (bytes:=64) (w:=w) h1 h2 (fun c hc y hy=>by
  obtain⟨j,hj⟩:=zb hc
  obtain⟨r,hr⟩:=bp (l:=a) (k:=j) (by have:=j_ hj;omega)
  obtain⟨c',g1,g2⟩:=h4 j r hr
  rw[hj]at g1
  obtain rfl:c=c':=by simpa using g1
  exact g2.J6 y hy) hN (by decide) dl (by omega) (HX d1) (by omega)
 refine⟨v',h',w',f1,f2,f3,cs++ds,f5,fun hc=>?_,by simp[h3,d2],fun j r hr=>?_⟩
 ·rw[List.append_eq_nil_iff]at hc
  rw[hc.2]at d2
  simp at d2
  omega
 ·by_cases hj:j<a.length
  ·rw[lE hj]at hr
   obtain⟨c',g1,g2⟩:=h4 j r hr
   exact⟨c',by rw[lE (by omega)];exact g1,g2.bV f4 fD⟩
  ·rw[oV (by omega)]at hr
   obtain⟨c',g1,g2⟩:=d3 _ r hr
   exact⟨c',by rw[oV (by omega),h3];exact g1,g2.bV f4 fD⟩
def Ft.frt{N0:Nat}{l:List Rat}(s:Ft N0 h N v l):dZ h N v l:=by
 obtain⟨cs,h1,h2,h3,h4⟩:=s
 exact TO h1 h3 fun j hj=>by
  obtain⟨q,hq⟩:=bp hj
  obtain⟨c,g1,g2⟩:=h4 j q hq
  exact⟨c,g1,fun r hr=>by rw[hq]at hr;cases hr;exact g2⟩
def Yfd{l:List Rat}(hs:kM h N v l)(h0:0<l.length)(hl:l.length<100000):Fn A.C 136 [v] h N (fun x h' n'=>Ft N h' n' x l):=by
 intro w
 obtain⟨cs,h1,h2,h3⟩:=id hs
 have fH:=h1
 rcases fH with⟨hn,_⟩|⟨i,o,cp,c,e,rw,rfl,q2,q3,q4,q5,q6⟩
 ·rw[hn]at h2
  simp at h2
  omega
 have kN:ab h N (h.set N (.cells [] 103 true)) (N+1):=ab.refl.new _
 have lJ:=fun w=>HX (w:=w) (h1.ae kN)
 have bB:cs.length≠0:=by omega
 have ha:∀w,gj ⟨h.set N (.cells [] 103 true),N+1,w⟩ 4 64 103 (.slice N 0 0 (some 0) 4) (.slice i o cs.length cp 4)=some (.slice (N+1) 0 cs.length none 4,⟨(h.set N (.cells [] 103 true)).set (N+1) (.cells cs.flatten 103 true),N+1+1,w⟩):=fun w=>by
  have hg:(h.set N (.cells [] 103 true)).get N=some (.cells [] 103 true):=by simp
  simp only[gj,lJ,tJ,St.row,hg,aE,St.alloc]
  simp[bB]
  omega
 have cl:∀x∈cs,x.length=4:=fun x hx=>by
  obtain⟨j,hj⟩:=zb hx
  obtain⟨r,hr⟩:=bp (l:=l) (k:=j) (by have:=j_ hj;omega)
  obtain⟨c',g1,g2⟩:=h3 j r hr
  rw[hj]at g1
  obtain rfl:x=c':=by simpa using g1
  exact g2.len.1
 rw[aO,A.k136 (by simp)]
 simp[A.b136,aI,yl,ha,az]
 have kB:ab h N ((h.set N (.cells [] 103 true)).set (N+1) (.cells cs.flatten 103 true)) (N+1+1):=(ab.refl.new _).new _
 refine⟨kB,cs,⟨cl,.inr ⟨N+1,by simp,by omega,by omega,by rw[T.ag];simp⟩⟩,fun hc=>by rw[hc]at bB;simp at bB,h2,fun j q hq=>?_⟩
 obtain⟨c',g1,g2⟩:=h3 j q hq
 exact⟨c',g1,g2.ae kB⟩
variable {d i j k:Nat} {m:List (List Rat)}
def dR(m:List (List Rat))(i j:Nat):Rat:=(m[i]?.getD [])[j]?.getD 0
def Yr0{p:Nat}(hd:d<m.length)(hp:p<m.length):dR (eE m d p) i j=if i=d then dR m p j else if i=p then dR m d j else dR m i j:=by
 unfold dR eE
 by_cases e1:i=p
 ·subst e1
  rw[iI (by simp;exact hp)]
  by_cases e2:i=d
  ·subst e2;simp
  ·simp[e2]
 ·rw[ec (Ne.symm e1)]
  by_cases e2:i=d
  ·subst e2;rw[iI hd];simp
  ·rw[ec (Ne.symm e2)];simp[e1,e2]
def Yr1(hd:d<m.length):dR (g_ m d k) i j=if i=d then dR m d j/dR m d k else dR m i j:=by
 unfold dR g_
 by_cases e:i=d
 ·subst e
  rw[iI hd,aF rfl,rM,gG]
  cases (m[i]?.getD [])[j]? with
  |none=>simp[Rat.div_def,Rat.zero_mul]
  |some q=>rfl
 ·rw[ec (Ne.symm e),ar e]
def Yr2{c:Nat}(h:cD m c)(hi:i<m.length)(hd:d<m.length):dR (gg m d k m.length) i j=if i=d then dR m i j else dR m i j-dR m i k*dR m d j:=by
 unfold dR
 rw[Da hi,rM]
 by_cases e:i=d
 ·rw[ar (by omega),aF e]
 ·rw[aF ⟨hi,e⟩,ar e]
  have l1:=h.at hi
  have l2:=h.at hd
  by_cases hj:j<c
  ·unfold oS
   rw[Oi (by omega)]
   rfl
  ·rw[fC (by rw[JI];omega),fC (l:=m[i]?.getD []) (by omega),fC (l:=m[d]?.getD []) (by omega)]
   show (0:Rat)=0-(m[i]?.getD [])[k]?.getD 0*0
   rw[Rat.mul_zero,Rat.sub_self]
def ZJ{m:List (List Rat)}{k:Nat}:∀{n d:Nat},d+n<=nE m k d n->∀i,d<=i->i<d+n->dR m i k=0
 |0,d,h,i,h1,h2=>by omega
 |n+1,d,h,i,h1,h2=>by
  unfold nE at h
  split at h
  ·omega
  ·rename_i hc
   by_cases e:i=d
   ·subst e;unfold dR;simpa using hc
   ·exact ZJ (n:=n) (d:=d+1) (by omega) i (by omega) (by omega)
structure BG (m:List (List Rat)) (d:Nat) (ps:List Nat) (n:Nat):Prop where
 len:ps.length=d
 le:d<=m.length
 lt:∀i,i<d->ps[i]?.getD 0<n
 HY:∀i j,i<j->j<d->ps[i]?.getD 0<ps[j]?.getD 0
 one:∀i j,i<d->j<m.length->dR m j (ps[i]?.getD 0)=if j=i then 1 else 0
 lead:∀i k,i<d->k<ps[i]?.getD 0->dR m i k=0
 rest:∀i k,d<=i->i<m.length->k<n->dR m i k=0
def BG.step{s:List (List Rat)×Nat×List Nat}{n c:Nat}(h:BG s.1 s.2.1 s.2.2 n)(hc:cD s.1 c):BG (iR s n).1 (iR s n).2.1 (iR s n).2.2 (n+1):=by
 obtain⟨m,d,ps⟩:=s
 simp only at h hc
 unfold iR
 simp only
 have hle:=@HM m n (m.length-d) d
 have iz:=h.le
 split
 ·rename_i hp
  have eX:d<m.length:=by unfold eG at hp;omega
  have ZK:d<=eG m d n:=hle.1
  have bB:dR m (eG m d n) n≠0:=@JJ m n (m.length-d) d (by unfold eG at hp;omega)
  generalize eG m d n=p at*
  have lK:=(hc.Bs eX hp).JH (d:=d) (k:=n) (by rw[t_];exact eX)
  have hlen:(gg (g_ (eE m d p) d n) d n m.length).length=m.length:=by rw[Ax,Fa,t_]
  have kO:(g_ (eE m d p) d n).length=m.length:=by rw[Fa,t_]
  have hb:∀i j,dR (eE m d p) i j=if i=d then dR m p j else if i=p then dR m d j else dR m i j:=fun i j=>Yr0 eX hp
  have hs:∀i j,dR (g_ (eE m d p) d n) i j=if i=d then dR m p j/dR m p n else dR (eE m d p) i j:=fun i j=>by
   rw[Yr1 (by rw[t_];exact eX),hb d j,hb d n,aF rfl,aF rfl]
  have he:∀i j,i<m.length->dR (gg (g_ (eE m d p) d n) d n m.length) i j=if i=d then dR m p j/dR m p n else dR (eE m d p) i j-dR (eE m d p) i n*(dR m p j/dR m p n):=fun i j hi=>by
   have:=Yr2 (m:=g_ (eE m d p) d n) (k:=n) (j:=j) lK (i:=i) (d:=d) (by rw[kO];exact hi) (by rw[kO];exact eX)
   rw[kO]at this
   rw[this,hs i j,hs i n,hs d j,aF rfl]
   split<;>rfl
  have pr:dR m p n/dR m p n=1:=by rw[Rat.div_def];exact Rat.mul_inv_cancel _ bB
  have TQ:∀i j,i<d->dR (eE m d p) i j=dR m i j:=fun i j hi=>by rw[hb,ar (by omega),ar (by omega)]
  have gH:∀i k,d<=i->i<m.length->k<n->dR (eE m d p) i k=0:=fun i k h1 h2 h3=>by
   rw[hb]
   split
   ·exact h.rest p k ZK hp h3
   ·split
    ·exact h.rest d k (aW _) eX h3
    ·exact h.rest i k h1 h2 h3
  have sI:∀k,k<n->dR m p k/dR m p n=0:=fun k hk=>by rw[h.rest p k ZK hp hk,Rat.div_def,Rat.zero_mul]
  have hold:∀i k,i<m.length->k<n->dR (gg (g_ (eE m d p) d n) d n m.length) i k=if i<d then dR m i k else 0:=fun i k hi hk=>by
   rw[he i k hi,sI k hk,Rat.mul_zero]
   by_cases e:i=d
   ·rw[aF e,ar (by omega)]
   ·rw[ar e]
    by_cases e2:i<d
    ·rw[aF e2,TQ i k e2,Rat.sub_eq_add_neg,Rat.neg_zero,Rat.add_zero]
    ·rw[ar e2,gH i k (by omega) hi hk,Rat.sub_eq_add_neg,Rat.neg_zero,Rat.add_zero]
  have qk:∀i,i<m.length->dR (gg (g_ (eE m d p) d n) d n m.length) i n=if i=d then 1 else 0:=fun i hi=>by
   rw[he i n hi,pr]
   split
   ·rfl
   ·rw[Rat.mul_one,Rat.sub_self]
  have ho:∀i,i<d->(ps++[n])[i]?.getD 0=ps[i]?.getD 0:=fun i hi=>by rw[lE (by have:=h.len;omega)]
  have wD:(ps++[n])[d]?.getD 0=n:=by rw[oV (by have:=h.len;omega),h.len];simp
  show BG (gg (g_ (eE m d p) d n) d n m.length) (d+1) (ps++[n]) (n+1)
  refine⟨by simp[h.len],by rw[hlen];omega,fun i hi=>?_,fun i j h1 h2=>?_,fun i j h1 h2=>?_,fun i k h1 h2=>?_,fun i k h1 h2 h3=>?_⟩
  ·by_cases e:i<d
   ·rw[ho i e];have:=h.lt i e;omega
   ·obtain rfl:i=d:=by omega
    rw[wD];omega
  ·rw[ho i (by omega)]
   by_cases e:j<d
   ·rw[ho j e];exact h.HY i j h1 e
   ·obtain rfl:j=d:=by omega
    rw[wD];exact h.lt i h1
  ·rw[hlen]at h2
   by_cases e:i<d
   ·rw[ho i e,hold j _ h2 (h.lt i e)]
    by_cases e2:j<d
    ·rw[aF e2];exact h.one i j e h2
    ·rw[ar e2,ar (by omega)]
   ·obtain rfl:i=d:=by omega
    rw[wD];exact qk j h2
  ·by_cases e:i<d
   ·rw[ho i e]at h2
    rw[hold i k (by omega) (by have:=h.lt i e;omega),aF e]
    exact h.lead i k e h2
   ·obtain rfl:i=d:=by omega
    rw[wD]at h2
    rw[hold i k eX h2,ar e]
  ·rw[hlen]at h2
   by_cases e:k<n
   ·rw[hold i k h2 e,ar (by omega)]
   ·obtain rfl:k=n:=by omega
    rw[qk i h2,ar (by omega)]
 ·rename_i hp
  have J7:=@ZJ m n (m.length-d) d (by unfold eG at hp;omega)
  show BG m d ps (n+1)
  refine⟨h.len,h.le,fun i hi=>by have:=h.lt i hi;omega,h.HY,h.one,h.lead,fun i k h1 h2 h3=>?_⟩
  by_cases e:k<n
  ·exact h.rest i k h1 h2 e
  ·obtain rfl:k=n:=by omega
   exact J7 i h1 (by omega)
def Fu{m:List (List Rat)}{c:Nat}(hc:cD m c):∀{n:Nat},BG (bf m n).1 (bf m n).2.1 (bf m n).2.2 n
 |0=>⟨rfl,tH _,fun i hi=>absurd hi (Nat.not_lt_zero i),fun i j _ hj=>absurd hj (Nat.not_lt_zero j),fun i j hi=>absurd hi (Nat.not_lt_zero i),fun i k hi=>absurd hi (Nat.not_lt_zero i),fun i k _ _ hk=>absurd hk (Nat.not_lt_zero k)⟩
 |n+1=>by
  rw[wz]
  exact(@Fu m c hc n).step (tG hc).1
def BG.idx{n:Nat}{ps:List Nat}(h:BG m d ps n)(hi:i<d):ps.idxOf (ps[i]?.getD 0)=i:=by
 have hl:=h.len
 have hm:ps[i]?.getD 0∈ps:=by
  rw[cZ (by omega)]
  exact List.getElem_mem _
 have hj:=List.idxOf_lt_length_iff.2 hm
 have hg:=List.getElem_idxOf hj
 by_cases e:ps.idxOf (ps[i]?.getD 0)=i
 ·exact e
 ·exfalso
  rcases Nat.lt_or_gt_of_ne e with h1|h1
  ·have:=h.HY _ _ h1 hi
   rw[cZ hj,hg]at this
   simp at this
  ·have:=h.HY _ _ h1 (by omega)
   rw[cZ hj,hg]at this
   simp at this
variable {m:List (List Rat)}
def Ymf{n i:Nat}(h:i<(bf m n).2.1):(qd m n)[i]?=(bf m n).1[i]?:=by
 unfold qd
 rw[iy,aF h]
def Oj{c n:Nat}(h:cD m c):cD (qd m n) c:=fun r hr=>(@tG m c h n).1 r (ym hr)
def yn(l:List Rat):Nat->Nat->Nat
 |k,0=>k
 |k,n+1=>if l[k]?.getD 0≠0 then k else yn l (k+1) n
def ZL{l:List Rat}{p:Nat}:∀{n k:Nat},k<=p->p<k+n->l[p]?.getD 0≠0->(∀j,k<=j->j<p->l[j]?.getD 0=0)->yn l k n=p
 |0,k,h1,h2,_,_=>by omega
 |n+1,k,h1,h2,h3,h4=>by
  unfold yn
  by_cases e:k=p
  ·subst e;rw[aF h3]
  ·rw[ar (fun hc=>hc (h4 k (aW _) (by omega)))]
   exact ZL (by omega) (by omega) h3 fun j a b=>h4 j (by omega) b
def Yme{c i:Nat}{row:List Rat}(hc:cD m c)(hi:(qd m c)[i]?=some row):∃p,(bf m c).2.2[i]?=some p/\p<c/\yn row 0 row.length=p/\(bf m c).2.2.idxOf p=i:=by
 have I:=@Fu m c hc c
 have AH:i<(bf m c).2.1:=by have:=j_ hi;rw[JU hc]at this;exact this
 rw[Ymf AH]at hi
 obtain⟨p,hp⟩:=bp (l:=(bf m c).2.2) (k:=i) (by rw[I.len];exact AH)
 have hx:=I.idx AH
 have hl:=I.lt i AH
 have ho:=I.one i i AH (by have:=I.le;omega)
 have hz:=fun k=>I.lead i k AH
 rw[hp]at hx hl ho hz
 simp only[rM,if_true]at hx hl ho hz
 unfold dR at ho hz
 rw[hi]at ho hz
 simp only[rM]at ho hz
 have hr:=(@tG m c hc c).1 row (cm hi)
 refine⟨p,hp,hl,ZL (tH _) (by omega) (by rw[ho];decide) fun j _ hj=>hz j hj,hx⟩
set_option maxHeartbeats 2000000
def J8{h:T O}{N:Nat}{v:V}{m:List (List Rat)}(s:gp h N v m){i:Nat}{row:List Rat}(hr:m[i]?=some row):∃j o c e rw u,wB v=some (j,o)/\j<N/\h.get j=some (.cells c e rw)/\c[o+i]?=some u/\dZ h N u row:=by
 obtain⟨us,h1,h2,h3⟩:=s
 obtain⟨u,a,b⟩:=h3 i row hr
 obtain⟨j,o,c,e,rw,q1,q2,q3,q4⟩:=h1.at a
 exact⟨j,o,c,e,rw,u,q1,q2,q3,q4,b⟩
variable {d i k n:Nat} {m:List (List Rat)} {r:List Rat}
def Yes{c x y z:List Rat}{f:Rat}:∀{n:Nat},(∀k,k<n->z[k]?.getD 0=x[k]?.getD 0-f*y[k]?.getD 0)->ks c z n=ks c x n-f*ks c y n
 |0,_=>by simp[ks];grind
 |n+1,h=>by
  have ih:=Yes (c:=c) (n:=n) fun k hk=>h k (by omega)
  have e:=h n (by omega)
  unfold ks
  rw[ih,e]
  grind
def Yet{c x z:List Rat}{p:Rat}:∀{n:Nat},(∀k,k<n->z[k]?.getD 0=x[k]?.getD 0/p)->ks c z n=ks c x n/p
 |0,_=>by simp[ks,Rat.div_def,Rat.zero_mul]
 |n+1,h=>by
  have ih:=Yet (c:=c) (n:=n) fun k hk=>h k (by omega)
  have e:=h n (by omega)
  unfold ks
  rw[ih,e,Rat.div_def,Rat.div_def,Rat.div_def]
  grind
def lh(n:Nat)(C:List (List Rat))(r:List Rat):List Rat:=r.take n++C.map fun c=>l_ c (r.drop n)
def Jz{C:List (List Rat)}(h:n<=r.length):(lh n C r).length=n+C.length:=by
 simp[lh]
 omega
def QR{C:List (List Rat)}(h:n<=r.length)(hi:i<n):(lh n C r)[i]?=r[i]?:=by
 unfold lh
 rw[lE (by rw[gm];omega),iy,aF hi]
def Yrz{j:Nat}{C:List (List Rat)}(h:n<=r.length):(lh n C r)[n+j]?=(C[j]?).map fun c=>l_ c (r.drop n):=by
 unfold lh
 rw[oV (by rw[gm];omega),gm,py h,Nat.add_sub_cancel_left,gG]
def Nw:(r.drop n)[k]?.getD 0=r[n+k]?.getD 0:=by rw[fh]
def Yz{r:List Rat}{p:Rat}{k:Nat}:(r.map fun x=>x/p)[k]?.getD 0=r[k]?.getD 0/p:=by
 rw[gG]
 cases r[k]? with
 |none=>simp[Rat.div_def,Rat.zero_mul]
 |some q=>rfl
def YA{p:List Rat}{j:Nat}(h:r.length=p.length):(oS r p k)[j]?.getD 0=r[j]?.getD 0-r[k]?.getD 0*p[j]?.getD 0:=by
 by_cases hj:j<r.length
 ·unfold oS
  rw[Oi hj]
  rfl
 ·rw[fC (by rw[JI];omega),fC (l:=r) (by omega),fC (l:=p) (by omega)]
  show (0:Rat)=0-r[k]?.getD 0*0
  rw[Rat.mul_zero,Rat.sub_self]
def QS{a b:List Rat}(h:a.length=b.length)(hg:∀i,i<a.length->a[i]?.getD 0=b[i]?.getD 0):a=b:=by
 apply List.ext_getElem h
 intro i h1 h2
 have:=hg i h1
 rw[cZ h1,cZ h2]at this
 exact this
def Nx{C:List (List Rat)}(h:n<=r.length):(lh n C r)[i]?.getD 0=if i<n then r[i]?.getD 0 else ((C[i-n]?).map fun c=>l_ c (r.drop n)).getD 0:=by
 by_cases hi:i<n
 ·rw[aF hi,QR h hi]
 ·rw[ar hi]
  have:=Yrz (C:=C) (j:=i-n) h
  rw[show n+(i-n)=i by omega]at this
  rw[this]
def Yo9{C:List (List Rat)}{p:Rat}(h:n<=r.length):lh n C (r.map fun x=>x/p)=(lh n C r).map fun x=>x/p:=by
 have h':n<=(r.map fun x=>x/p).length:=by rw[jP];exact h
 apply QS (by rw[Jz h',jP,Jz h])
 intro i _
 rw[Nx h',Yz,Yz,Nx h]
 by_cases hi:i<n
 ·rw[aF hi,aF hi]
 ·rw[ar hi,ar hi]
  cases C[i-n]? with
  |none=>simp[Rat.div_def,Rat.zero_mul]
  |some c=>exact Yet fun k _=>by rw[Nw,Yz,Nw]
def Yo8{C:List (List Rat)}{p:List Rat}(h:n<=r.length)(hp:r.length=p.length)(hk:k<n):lh n C (oS r p k)=oS (lh n C r) (lh n C p) k:=by
 have h':n<=(oS r p k).length:=by rw[JI];exact h
 have Dc:n<=p.length:=by omega
 apply QS (by rw[Jz h',JI,Jz h])
 intro i _
 rw[Nx h',YA hp,YA (r:=lh n C r) (by rw[Jz h,Jz Dc]),Nx h,Nx Dc,QR h hk]
 by_cases hi:i<n
 ·rw[aF hi,aF hi,aF hi]
 ·rw[ar hi,ar hi,ar hi]
  cases C[i-n]? with
  |none=>simp[Rat.mul_zero,Rat.sub_self]
  |some c=>exact Yes fun j _=>by rw[Nw,YA hp,Nw,Nw]
def JA{F:List Rat->List Rat}(h:i<m.length):((m.map F)[i]?).getD []=F (m[i]?.getD []):=by
 rw[gG,cZ h]
 rfl
def Yj7{m:List (List Rat)}{n k L:Nat}{C:List (List Rat)}(hc:cD m L)(hn:n<=L)(hk:k<n):∀{t d:Nat},d+t<=m.length->nE (m.map (lh n C)) k d t=nE m k d t
 |0,d,_=>rfl
 |t+1,d,h=>by
  have hl:=hc.at (i:=d) (by omega)
  unfold nE
  rw[JA (by omega),QR (by omega) hk,Yj7 hc hn hk (by omega)]
def Ylq{F:List Rat->List Rat}{p:Nat}(hd:d<m.length)(hp:p<m.length):eE (m.map F) d p=(eE m d p).map F:=by
 unfold eE
 rw[JA hd,JA hp,List.map_set,List.map_set]
def Yl2{L:Nat}{C:List (List Rat)}(hc:cD m L)(hn:n<=L)(hk:k<n)(hd:d<m.length):g_ (m.map (lh n C)) d k=(g_ m d k).map (lh n C):=by
 have hl:=hc.at hd
 unfold g_
 rw[JA hd,List.map_set,QR (by omega) hk,Yo9 (by omega)]
def Yoe{t L:Nat}{C:List (List Rat)}(hc:cD m L)(hn:n<=L)(hk:k<n)(hd:d<m.length):gg (m.map (lh n C)) d k t=(gg m d k t).map (lh n C):=by
 have hl:=hc.at hd
 unfold gg
 rw[jP,List.map_map]
 apply AA
 intro i hi
 have hi:=yb.1 hi
 have OP:=hc.at hi
 simp only[Function.comp]
 rw[JA hi,JA hd]
 split
 ·rw[Yo8 (by omega) (by omega) hk]
 ·rfl
def Ylw{s:List (List Rat)×Nat×List Nat}{L:Nat}{C:List (List Rat)}(hc:cD s.1 L)(hn:n<=L)(hk:k<n)(hd:s.2.1<=s.1.length):iR (s.1.map (lh n C),s.2.1,s.2.2) k=((iR s k).1.map (lh n C),(iR s k).2.1,(iR s k).2.2):=by
 obtain⟨m,d,ps⟩:=s
 simp only at hc hd
 have e:eG (m.map (lh n C)) d k=eG m d k:=by
  unfold eG
  rw[jP]
  exact Yj7 hc hn hk (by omega)
 have hle:=(HM (m:=m) (k:=k) (n:=m.length-d) (d:=d)).1
 unfold iR
 simp only
 rw[e,jP]
 by_cases hp:eG m d k<m.length
 ·have eX:d<m.length:=by unfold eG at hp;omega
  rw[aF hp,aF hp]
  have c1:=hc.Bs eX hp
  have c2:=c1.JH (d:=d) (k:=k) (by rw[t_];exact eX)
  rw[Ylq eX hp,Yl2 c1 hn hk (by rw[t_];exact eX),Yoe c2 hn hk (by rw[Fa,t_];exact eX)]
 ·rw[ar hp,ar hp]
def Yen{m:List (List Rat)}{n L:Nat}{C:List (List Rat)}(hc:cD m L)(hn:n<=L):∀{k:Nat},k<=n->bf (m.map (lh n C)) k=((bf m k).1.map (lh n C),(bf m k).2.1,(bf m k).2.2)
 |0,_=>rfl
 |k+1,h=>by
  have I:=tG hc (n:=k)
  have hl:=AD (m:=m) (n:=k)
  rw[wz,wz,Yen hc hn (by omega)]
  exact Ylw I.1 hn (by omega) (by rw[hl];exact I.2)
variable {G X m:List (List Rat)} {i n:Nat}
def de(G X:List (List Rat)):List (List Rat):=(List.range G.length).map fun i=>G[i]?.getD []++X[i]?.getD []
def yL(n i:Nat):List Rat:=(List.range n).map fun j=>if j=i then 1 else 0
def gF(n:Nat):List (List Rat):=(List.range n).map (yL n)
def k_(a C:List (List Rat)):List (List Rat):=a.map fun r=>C.map fun c=>l_ c r
def xY(G:List (List Rat))(n:Nat):Option (List (List Rat)):=if (bf (de G (gF n)) (n+n)).2.1=n/\∀i,i<n->(bf (de G (gF n)) (n+n)).2.2[i]?.getD 0=i then some ((qd (de G (gF n)) (n+n)).map (List.drop n)) else none
def xZ(G X:List (List Rat))(n c:Nat):Option (List (List Rat)):=if (bf (de G X) (n+c)).2.1<n\/(bf (de G X) (n+c)).2.2[n-1]?.getD 0≠n-1 then none else some ((qd (de G X) (n+c)).map (List.drop n))
def vL:(de G X).length=G.length:=by simp[de]
def Bo{c:Nat}(hG:cD G n)(hX:cD X c)(hl:G.length<=X.length):cD (de G X) (n+c):=fun r hr=>by
 obtain⟨i,hi,rfl⟩:=eM.1 hr
 have hi:=yb.1 hi
 rw[iN,hG.at hi,hX.at (by omega)]
def Ya8:(yL n i).length=n:=by simp[yL]
def Ylk{j:Nat}(h:j<n):(yL n i)[j]?.getD 0=if j=i then 1 else 0:=by simp[yL,h]
def Yp:(gF n).length=n:=by simp[gF]
def Yq4(h:i<n):(gF n)[i]?.getD []=yL n i:=by simp[gF,h]
def Yo:cD (gF n) n:=fun r hr=>by
 obtain⟨i,_,rfl⟩:=eM.1 hr
 exact Ya8
def Yer{a:List Rat}{n i:Nat}:∀{m:Nat},m<=n->ks a (yL n i) m=if i<m then a[i]?.getD 0 else 0
 |0,_=>by simp[ks]
 |m+1,h=>by
  unfold ks
  rw[Yer (a:=a) (i:=i) (m:=m) (by omega),Ylk (by omega)]
  by_cases e:m=i
  ·subst e
   simp[Rat.mul_one,Rat.zero_add]
  ·rw[ar e,Rat.mul_zero,Rat.add_zero]
   by_cases e2:i<m
   ·rw[aF e2,aF (by omega)]
   ·rw[ar e2,ar (by omega)]
def Yf3{c:Nat}(hG:cD G n)(hl:G.length=n)(hX:cD X c)(hx:X.length=n):de G X=(de G (gF n)).map (lh n (fg X c)):=by
 unfold de
 rw[List.map_map]
 apply AA
 intro i hi
 have hi:=yb.1 hi
 have l1:=hG.at hi
 simp only[Function.comp]
 rw[Yq4 (by omega)]
 unfold lh
 rw[List.take_left' l1,List.drop_left' l1]
 congr 1
 have l2:=hX.at (i:=i) (by omega)
 apply QS (by rw[l2];simp[fg])
 intro j hj
 rw[l2]at hj
 unfold fg
 rw[List.map_map,gG,FG hj]
 simp only[xz,rM,Function.comp]
 unfold l_
 have l3:(iQ X j).length=n:=by simp[iQ,hx]
 rw[l3,Yer (aW _),aF (by omega)]
 unfold iQ
 rw[gG]
 cases X[i]?<;>simp
def Yem{m:List (List Rat)}{k:Nat}:∀{e:Nat},∃l:List Nat,(bf m (k+e)).2.2=(bf m k).2.2++l/\∀x∈l,k<=x
 |0=>⟨[],by simp,fun x hx=>by simp at hx⟩
 |e+1=>by
  obtain⟨l,h1,h2⟩:=Yem (m:=m) (k:=k) (e:=e)
  rw[<-pw,wz]
  unfold iR
  split
  ·refine⟨l++[k+e],by simp[h1],fun x hx=>?_⟩
   rcases kb.1 hx with hx|hx
   ·exact h2 x hx
   ·simp at hx
    omega
  ·exact⟨l,h1,h2⟩
def Ykb{d:Nat}{ps:List Nat}(h:BG m d ps d){i:Nat}(hi:i<d):ps[i]?.getD 0=i:=by
 have up:∀j,j<d->j<=ps[j]?.getD 0:=fun j=>by
  induction j with
  |zero=>intro _;omega
  |succ j ih=>
   intro hj
   have:=h.HY j (j+1) (by omega) hj
   have:=ih (by omega)
   omega
 have dn:∀j,j<d->ps[d-1-j]?.getD 0+j<d:=fun j=>by
  induction j with
  |zero=>intro h0;exact h.lt (d-1) (by omega)
  |succ j ih=>
   intro hj
   have h1:=h.HY (d-1-(j+1)) (d-1-j) (by omega) (by omega)
   have:=ih (by omega)
   omega
 have h1:=up i hi
 have h2:=dn (d-1-i) (by omega)
 rw[show d-1-(d-1-i)=i by omega]at h2
 omega
def Zw6{L e:Nat}(hm:cD m L)(h0:0<n)(ht:(bf m n).2.1<n)(hd:(bf m (n+e)).2.1=n):n<=(bf m (n+e)).2.2[n-1]?.getD 0:=by
 obtain⟨l,q1,q2⟩:=Yem (m:=m) (k:=n) (e:=e)
 have J:=(Fu hm (n:=n)).len
 have J2:=(Fu hm (n:=n+e)).len
 rw[hd,q1,iN]at J2
 rw[q1,oV (by omega)]
 have ay:n-1-(bf m n).2.2.length<l.length:=by omega
 rw[cZ ay]
 exact q2 _ (List.getElem_mem ay)
def Yp6{c:Nat}(hG:cD G n)(hl:G.length=n)(h0:0<n)(hX:cD X c)(hx:X.length=n):xZ G X n c=(xY G n).map fun H=>k_ H (fg X c):=by
 have hW:=Bo hG (Yo (n:=n)) (by rw[Yp,hl];exact aW _)
 have lW:(de G (gF n)).length=n:=by rw[vL,hl]
 have I:=Fu hW (n:=n)
 have hle:=(tG hW (n:=n)).2
 have hwx:=Yf3 hG hl hX hx
 have hE:=Yen (C:=fg X c) hW (Nat.le_add_right n n) (aW n)
 rw[<-hwx]at hE
 have lX:(de G X).length=n:=by rw[vL,hl]
 unfold xZ xY qd
 by_cases f:(bf (de G (gF n)) n).2.1=n
 ·have e1:=NX (f.trans lW.symm) (n:=n)
  have e2:bf (de G X) (n+c)=bf (de G X) n:=NX (by rw[hE,lX];exact f)
  rw[e1,e2,hE]
  simp only
  rw[f]at I
  rw[ar (by rw[f,Ykb I (by omega)];omega),aF ⟨f,fun i hi=>Ykb I hi⟩,xz,f]
  congr 1
  unfold k_
  rw[List.map_map,<-List.map_take,List.map_map]
  apply AA
  intro r hr
  have lr:=(tG hW (n:=n)).1 r (ym hr)
  simp only[Function.comp]
  unfold lh
  exact List.drop_left' (by rw[gm];omega)
 ·have ht:(bf (de G (gF n)) n).2.1<n:=by omega
  have xe:(bf (de G X) n).2.1<n:=by rw[hE];exact ht
  have hWX:=Bo hG hX (by omega)
  rw[aF,ar]
  ·rfl
  ·rintro⟨a,b⟩
   have:=Zw6 hW h0 ht a
   rw[b (n-1) (by omega)]at this
   omega
  ·by_cases d:(bf (de G X) (n+c)).2.1<n
   ·exact .inl d
   ·have h5:=(tG hWX (n:=n+c)).2
    have:=Zw6 hWX h0 xe (e:=c) (by omega)
    exact .inr (by omega)
variable {N j k n:Nat} {h:T O} {v:V}
set_option maxHeartbeats 1000000
def A.rk:av:=sr [bi 11 .lss 10 9]
 (.seq (cd 11
 (.skip)
 (.exit 0))
 (.seq (.block 1 (sr [ia 12 1 8 10,ld 13 12,mv 7 13]
 (.aR [mv 14 5,mv 15 1,mv 16 7,ge 17 (.call (tq 15) [tq 16]),ge 18 (.aV 76 1 1 [.aa] [(0,1,(tq 17))]),ge 19 (.append 1 24 76 [.aa] (tq 14) (tq 18)),mv 5 19])))
 (.aR [bc 20 .add 10 1,mv 10 20])))
def A.b137:av:=sr [mN 4]
 (sr [mN 5]
 (.seq (sr [mv 8 0,ln 9 8,mc 10 0]
 (.block 0 (.loop A.rk)))
 (sr [mv 21 5,mv 4 21]
 (.ret))))
def A.c137:A.F 137=some ⟨22,[.tmp 4],A.b137⟩:=by kernel_rfl
def A.k137:=@A.kk 137 _ _ _ A.c137 rfl
def Yia{f:V}{l:List V}{Q:Nat->T O->Nat->V->Prop}(Y:V->Prop)(hQ:∀j h n h' n' c u,Q j h n c->dP (fun i=>i∈cR u) h n h' n'->mr 76 Y h u->Q j h' n' c)(hs:Sl h N v l)(hl:l.length<1000000000)(hf:∀(j:Nat) (x:V),l[j]?=some x->∀h' n',ab h N h' n'->jR A.C f [x] h' n' (fun u h2 n2=>∃y,u=y/\[y].length=1/\[y].all V.one=true/\(∀q∈[y],Y q)/\Q j h2 n2 y)):Fn A.C 137 [v,f] h N (fun u h' n'=>∃out,Own 1 76 N h' n' u out/\out.length=l.length/\∀(j:Nat),j<l.length->∃y,out[j]?=some [y]/\Q j h' n' y):=by
 intro w
 have hlen:=hs.len
 rw[aO,A.k137 (by simp)]
 simp[A.b137,hlen]
 refine bP [(5,5),(7,7),(10,20)] (fun e r st=>e=.exit 0/\ax N st.w=[]/\ab h N st.h st.n/\∃u out,r.get 5=some u/\Own 1 76 N st.h st.n u out/\out.length=l.length/\∀(j:Nat),j<l.length->∃y,out[j]?=some [y]/\Q j st.h st.n y) (fun m r st=>ax N st.w=[]/\ab h N st.h st.n/\∃k u out,k+m=l.length/\r.get 10=some (.int .i64 k)/\r.get 5=some u/\Own 1 76 N st.h st.n u out/\out.length=k/\(out=[]->u=.aa)/\(∀c∈out,∀y∈c,Y y)/\∀(j:Nat),j<k->∃y,out[j]?=some [y]/\Q j st.h st.n y) l.length ?_ ?_ ?_
 ·exact⟨by simp,ab.refl,0,.aa,[],by omega,by simp,by simp,Own.nil,rfl,fun _=>rfl,by simp,fun j hj=>by omega⟩
 ·rintro m r ⟨H,n1,W⟩ hr c_ ⟨hW,hK,k,u,out,hk,gY,h5,ho,gV,vM,hY,dp⟩
  simp only at hW hK ho dp
  rw[bq]
  cases m with
  |zero=>
   have zV:k=l.length:=by omega
   subst zV
   simp[A.rk,hr,c_,gY,hW,hK]
   exact⟨u,h5,out,ho,gV,dp⟩
  |succ m=>
   have ay:k<l.length:=by omega
   obtain⟨x,hx⟩:=bp ay
   obtain⟨i,o,cc,e,rw,q1,q2,q3,q4⟩:=(hs.ae hK).at hx
   have bR:(k:Int)<(l.length:Int):=by omega
   have kA:=hK
   simp[A.rk,hr,gY,h5,bR,hlen,q1,q3,q4]
   refine Ca (hf k x hx _ _ kA) ?_
   rintro y h3 n3 k3 ⟨_,rfl,c1,c2,cY,c3⟩
   have jd:=k3.le
   have kn:=hK.le
   have kB:=kA.trans k3
   have b1:V.one y=true:=by simpa using c2
   have b2:V.cells y=[y]:=by cases y<;>first|rfl|cases b1
   simp[-V.cells, -V.one,b1,b2,ad]
   have tS:Own 1 76 N (h3.set n3 (.cells [y] 76 true)) (n3+1) u out:=(ho.ae ((ab.refl).trans k3)).ae (ab.refl.new _)
   obtain⟨v',h',w',f1,f2,f3,f4,fD,f5⟩:=De (Y:=Y) (x:=[y]) (u:=.slice n3 0 1 (some 1) 1) (bytes:=24) (w:=W) tS vM hY (by omega) (by decide) c1 (by simp[eD,St.row,aE]) (by omega)
   rw[f1]
   have ik:¬n1<N:=by omega
   have f6:ax N w'=[]:=by rw[f2];simp[hW]
   have kz:=(kB.new (.cells [y] 76 true)).then f3
   have k4:ab h3 n3 (h3.set n3 (.cells [y] 76 true)) (n3+1):=ab.refl.new _
   have yH:Q k (h3.set n3 (.cells [y] 76 true)) (n3+1) y:=hQ _ _ _ _ _ _ .aa c3 k4.upd mr.nil
   simp(disch:=first|(simp;done)|omega|rfl) [c_,gY,f6]
   refine⟨m,by omega,kz,k+1,by omega,by simp,out++[[y]],f5,by simp[gV],by simp,fun c' hc z hz=>?_,fun j hj=>?_⟩
   ·rcases kb.1 hc with hc|hc
    ·exact hY c' hc z hz
    ·simp only[wC]at hc;subst hc;exact cY z hz
   by_cases rV:j<k
   ·obtain⟨y,g1,g2⟩:=dp j rV
    exact⟨y,by rw[lE (by omega)];exact g1,hQ _ _ _ _ _ _ _ (hQ _ _ _ _ _ _ .aa g2 (((ab.refl).trans k3).trans k4).upd mr.nil) f4 fD⟩
   ·obtain rfl:j=k:=by omega
    exact⟨y,by rw[oV (by omega),gV];simp,hQ _ _ _ _ _ _ _ yH f4 fD⟩
 ·rintro _ r ⟨H,n1,W⟩ hr ⟨rfl,hW,hK,u,out,h5,ho,gV,dp⟩
  simp only at hW hK ho dp
  simp[h5,az,hW,hK]
  exact⟨out,ho,gV,dp⟩
def A.b63:av:=sr [mN 4]
 (sr [mv 6 1,mv 7 1,ge 8 (.aU 1 (tq 7) (kq 0)),ld 9 8,ln 10 9,c2 11 64 6 10,ge 5 (.alloc [.aa] 72),so 5 11]
 (sr [mv 12 0,ge 13 (.cP 139 [] [tq 5]),c2 14 137 12 13,mv 4 14]
 (.ret)))
def A.c63:A.F 63=some ⟨15,[.tmp 4],A.b63⟩:=by kernel_rfl
def A.k63:=@A.kk 63 _ _ _ A.c63 rfl
def A.b139:av:=sr [mN 3]
 (sr [ld 4 1,mv 5 0,c2 6 65 4 5,mv 3 6]
 (.ret))
def A.c139:A.F 139=some ⟨7,[.tmp 3],A.b139⟩:=by kernel_rfl
def A.k139:=@A.kk 139 _ _ _ A.c139 rfl
def A.b138:av:=sr [mN 3]
 (sr [mv 4 0,ld 5 1,ge 6 (.cQ 4 (tq 4) (some (tq 5)) none none),mv 3 6]
 (.ret))
def A.c138:A.F 138=some ⟨7,[.tmp 3],A.b138⟩:=by kernel_rfl
def A.k138:=@A.kk 138 _ _ _ A.c138 rfl
def Yho{out:List (List V)}(h:∀x∈out,x.length=1):∃ys:List V,out=ys.map fun y=>[y]:=by
 induction out with
 |nil=>exact⟨[],rfl⟩
 |cons x t ih=>
  obtain⟨ys,rfl⟩:=ih fun x lI=>h x (o9 _ lI)
  have:=h x pn
  match x,this with
  |[y],_=>exact⟨y::ys,rfl⟩
def Ydf{f:V}{m:List (List Rat)}(F:List Rat->List Rat)(hs:gp h N v m)(hl:m.length<100000)(hf:∀l∈m,∀u h' n',ab h N h' n'->dZ h' n' u l->jR A.C f [u] h' n' (fun x h2 n2=>dZ h2 n2 x (F l))):Fn A.C 137 [v,f] h N (fun u h' n'=>gp h' n' u (m.map F)):=by
 obtain⟨us,h1,h2,h3⟩:=hs
 have key:=Yia (f:=f) (Q:=fun j h n u=>∀l,(m.map F)[j]?=some l->dZ h n u l) NW (fun j h n h' n' c u hq k hd l hl=>(hq l hl).bV k hd (by simp)) h1 (by omega) ?_
 ·intro w
  refine(key w).mono fun y st=>?_
  rintro⟨q1,q2,out,o1,o2,o3⟩
  obtain⟨ys,rfl⟩:=Yho o1.1
  refine⟨q1,q2,ys,Sn.one.1 o1.sn,by simpa[h2]using o2,fun j l hl=>?_⟩
  obtain⟨y,g1,g2⟩:=o3 j (by have:=j_ hl;simp at this;omega)
  refine⟨y,?_,g2 l hl⟩
  rw[gG]at g1
  cases hy:ys[j]? with
  |none=>rw[hy]at g1;simp at g1
  |some z=>rw[hy]at g1;simpa using g1
 ·intro j x hx h' n' hk
  obtain⟨l,hl⟩:=bp (l:=m) (k:=j) (by have:=j_ hx;omega)
  obtain⟨u,g1,g2⟩:=h3 j l hl
  rw[hx]at g1
  obtain rfl:x=u:=by simpa using g1
  refine fun w=>(hf l (cm hl) _ _ _ hk (g2.ae hk) w).mono fun y st=>?_
  rintro⟨q1,q2,q3⟩
  obtain⟨f1,f2,f3⟩:=q3.1.form
  refine⟨q1,q2,y,rfl,rfl,by simp only[List.all_cons,List.all_nil,f1,Bool.and_true],by simpa using f3,fun l' jS=>?_⟩
  rw[gG,hl]at jS
  obtain rfl:F l=l':=by simpa using jS
  exact q3
def Yqe{P:Nat}{a u:V}{C:List (List Rat)}{l:List Rat}{e:TypeId}{rw:Bool}(hp:h.get P=some (.cells [a] e rw))(hP:P<N)(ha:gp h N a C)(hu:dZ h N u l)(hC:∀r∈C,r.length=n/\∀q∈r,Qb j q)(hn:n<=l.length)(hb:∀q∈l,Qb k q)(hj:1<=j)(hk:1<=k)(hl:n*(j+k+1)+j+k+1<=400000000)(hCl:C.length<100000):jR A.C (.func 139 [] [.ptr P 0]) [u] h N (fun x h' n'=>dZ h' n' x (C.map fun c=>l_ c l)):=by
 intro w
 rw[aO,A.k139 (by simp)]
 simp[A.b139,hp]
 refine aA (Ycd ha hu.1 hC hn hb hj hk hl hCl) ?_
 rintro x H2 n2 k2 hx
 simp[az]
 exact⟨k2,hx⟩
def EN{B:List (List Rat)}{c:Nat}(hB:cX B k)(hk:1<=k):∀r∈fg B c,r.length=B.length/\∀q∈r,Qb k q:=fun r hr=>by
 unfold fg at hr
 obtain⟨i,_,rfl⟩:=eM.1 hr
 refine⟨by simp[iQ],fun q hq=>?_⟩
 unfold iQ at hq
 obtain⟨l,hl,rfl⟩:=eM.1 hq
 exact Bt (hB l hl) hk i
def sh{B:List (List Rat)}{c:Nat}:(fg B c).length=c:=by simp[fg]
def Yj0{A C:List (List Rat)}(hA:cX A k)(hC:∀r∈C,r.length=n/\∀q∈r,Qb j q)(hj:1<=j)(hk:1<=k):cX (k_ A C) (n*(j+k+1)+1):=fun r hr q hq=>by
 unfold k_ at hr
 obtain⟨a,ha,rfl⟩:=eM.1 hr
 obtain⟨c,hc,rfl⟩:=eM.1 hq
 obtain⟨h1,h2⟩:=hC c hc
 exact Yoi h2 (hA a ha) hj hk (by omega)
def QN{A C:List (List Rat)}:cD (k_ A C) C.length:=fun r hr=>by
 unfold k_ at hr
 obtain⟨a,ha,rfl⟩:=eM.1 hr
 rw[jP]
def Nt{A C:List (List Rat)}:(k_ A C).length=A.length:=by simp[k_]
def Yce{c:Nat}{u:V}{A' B:List (List Rat)}(hu:gp h N u A')(hv:gp h N v B)(hA:cD A' n)(hB:cD B c)(hn:B.length<=n)(kW:0<B.length)(hAl:A'.length<1000)(Yd:B.length<1000)(hc:c<1000)(qA:cX A' k)(qB:cX B j)(hj:1<=j)(hk:1<=k)(hl:B.length*(j+k+1)+j+k+1<=400000000):Fn A.C 63 [u,v] h N (fun x h' n'=>gp h' n' x (k_ A' (fg B c))):=by
 intro w
 obtain⟨l0,fj⟩:=bp kW
 obtain⟨i2,o2,c2,e2,w2,y,q1,q2,q3,q4,q5⟩:=J8 hv fj
 rw[ka]at q4
 have lv:=hv.len
 have YB:(0:Int)<(B.length:Int):=by omega
 have ly:=q5.1.len
 rw[hB l0 (cm fj)]at ly
 rw[aO,A.k63 (by simp)]
 simp[A.b63,lv,kW,q1,q3,q4,ly]
 refine aA (Zwk hv (by omega) hB hc) ?_
 rintro x H2 n2 k2 hx
 have hx:=hx.HW
 obtain⟨us,f0,_⟩:=id hx
 have f1:=f0.form.one
 have f2:=f0.form.cells
 have kC:ab H2 n2 ((H2.set n2 (.cells [.aa] 72 true)).set n2 (.cells [x] 72 true)) (n2+1):=(ab.refl.new _).set (aW _)
 have gC:((H2.set n2 (.cells [.aa] 72 true)).set n2 (.cells [x] 72 true)).get n2=some (.cells [x] 72 true):=by rw[T.ag,aF rfl]
 have pq:ad [V.aa] 0 [x]=[x]:=rfl
 simp[-V.cells, -V.one,f1,f2,pq,bO]
 generalize (H2.set n2 (.cells [.aa] 72 true)).set n2 (.cells [x] 72 true)=G at*
 refine aA (Ydf (fun l=>(fg B c).map fun c=>l_ c l) ((hu.ae k2).ae kC) (by omega) fun l jS u' h' n' k' mE=>Yqe ((k'.get n2 (by omega)).trans gC) (by have:=k'.le;omega) ((hx.ae kC).ae k') mE (EN qB hj) (by rw[hA l jS];exact hn) (qA l jS) hj hk hl (by rw[sh];omega)) ?_
 rintro z H3 n3 k3 hz
 simp[az]
 exact⟨by have:=k2.le;omega,(k2.trans kC).trans k3,hz⟩
variable {N k:Nat} {h:T O} {m:List (List Rat)} {v:V} {w:List Rat}
set_option maxHeartbeats 2000000
def A.rm:av:=.aR [mv 7 11]
def A.rn:av:=.block 1 (.aX [ld 12 5,mv 13 7,ld 14 3,ge 15 (.call (fq 68) [tq 13,tq 14,(fq 86)]),ge 16 (.aV 76 1 1 [.aa] [(0,1,(tq 15))]),ge 17 (.append 1 24 76 [.aa] (tq 12) (tq 16)),so 5 17] [0,0,0,6,14,31,63])
def A.b78:av:=sr [bx 3 76 1,mN 4]
 (sr [ge 5 (.alloc [.aa] 72)]
 (.seq (sr [mv 8 0,c1 9 107 8]
 (.block 0 (.iV (tq 9) [10,11] A.rm A.rn)))
 (sr [ld 18 5,mv 4 18]
 (.ret))))
def A.c78:A.F 78=some ⟨19,[.tmp 4],A.b78⟩:=by kernel_rfl
def A.k78:=@A.kk 78 _ _ _ A.c78 rfl
def dZ.ux{h':T O}{N' B:Nat}{u:V}{l:List Rat}{e:TypeId}(s:dZ h N u l)(k:dP (fun i=>i=B) h N h' N')(g:h.get B=some (.cells [.aa] e true))(he:e≠103):dZ h' N' u l:=
 s.bV (v:=.slice B 0 1 none 1) (k.mono fun i _ hi=>by simp[cR];exact hi) (fun i hi=>by
  simp[cR]at hi
  subst hi
  exact⟨_,g,by simp,fun y hy=>by simp at hy;subst hy;exact fun m=>by simp⟩) he
def iC.form{N0:Nat}(s:iC N0 h N v m):V.one v=true/\V.cells v=[v]/\∀n,v≠.int .u64 n:=by
 obtain⟨us,h1,_⟩:=s
 obtain⟨_,⟨_,rfl⟩|⟨i,rfl,_⟩⟩:=h1
 ·exact⟨rfl,rfl,fun n=>by simp⟩
 ·exact⟨rfl,rfl,fun n=>by simp⟩
def iC.YC{N0:Nat}{B:Nat}{y z:V}(s:iC N0 h N v m)(hB:B<N0)(g:h.get B=some (.cells [y] 72 true))(hy:∀n,y≠.int .u64 n):iC N0 (h.set B (.cells [z] 72 true)) N v m:=by
 obtain⟨us,h1,h2,h3,h4⟩:=s
 refine⟨us,?_,h2,h3,fun j l hl=>?_⟩
 ·obtain⟨a,b⟩:=h1
  refine⟨a,?_⟩
  rcases b with b|⟨i,b1,b2,b3,b4⟩
  ·exact .inl b
  ·exact .inr ⟨i,b1,b2,b3,by rw[T.ag,ar (by omega)];exact b4⟩
 ·obtain⟨u,a,b⟩:=h4 j l hl
  exact⟨u,a,b.sG g (by decide) (fun x hx m hc=>by simp at hx;exact hy m (hx▸hc)) rfl⟩
def yN(m:List (List Rat))(w:List Rat)(k:Nat):List (List Rat):=(List.range k).map fun j=>xr (iQ m j) w (iQ m j).length
def Yf5:yN m w (k+1)=yN m w k++[xr (iQ m k) w (iQ m k).length]:=by
 unfold yN
 rw[List.range_succ,List.map_append]
 rfl
def Ylf:(yN m w k).length=k:=by simp[yN]
def Ypx(h:w.length=m.length):yN m w k=(fg m k).map fun r=>yO r w:=by
 unfold yN fg
 rw[List.map_map]
 apply AA
 intro j _
 simp only[Function.comp]
 unfold yO xr
 rw[show (iQ m j).length=w.length by simp[iQ,h]]
def wR(r:T V)(d:Nat):JW:=Oa r 19 [10,11] A.rm A.rn d
def Yld{H:T O}{n B P d j0 k0:Nat}{r:T V}{x wv:V}{ry:List Rat}{W:List Nat}{e:TypeId}{rw:Bool}(hL:H.get (N+1)=some (.loop (wR r d)))(hB:H.get B=some (.cells [v] 72 true))(hP:H.get P=some (.cells [wv] e rw))(hO:iC (N+2) H n v (yN m ry k))(hn:N+2<=n)(YD:B<N)(YE:P<N)(hx:dZ H n x (iQ m k))(hw:dZ H n wv ry)(hk:k<1000)(jQ:(iQ m k).length=ry.length)(hl:ry.length<1000)(qa:∀q∈iQ m k,Qb j0 q)(qb:∀q∈ry,Qb k0 q)(hj:j0<=400000000)(jW:k0<=400000000)(h5:r.get 5=some (.ptr B 0))(h3:r.get 3=some (.ptr P 0))(hW:ax B W=[]):Call A.C (.yield (N+1)) [.int .i64 k,x] ⟨H,n,W⟩ (fun y st=>y=.bool true/\ax B st.w=[]/\dP (DU N B) H n st.h st.n/\st.h.get (N+1)=some (.loop (wR r d))/\∃v',st.h.get B=some (.cells [v'] 72 true)/\iC (N+2) st.h st.n v' (yN m ry (k+1))):=by
 refine Yam (R:=wR r d) (r0:=(r.set 10 (.int .i64 k)).set 11 x) rfl hL rfl (by simp[wR,Oa,BC]) ?_
 rw[bq]
 show bH A.C [] (eH (A.C.code (some (N+1)) A.rm ⟨_,19,[]⟩ ⟨H,n,W⟩)) _
 simp[A.rm]
 refine⟨hL,?_⟩
 rw[bq]
 show bH A.C [] (eH (A.C.code (some (N+1)) A.rn ⟨_,19,[]⟩ _)) _
 have nc:Fs (.loop (wR r d)):=fun c e w h=>by cases h
 have sW:=hx.o8 (o:=.loop {wR r d with st:=.busy}) hL nc
 have Ih:=hw.o8 (o:=.loop {wR r d with st:=.busy}) hL nc
 have hBu:(H.set (N+1) (.loop {wR r d with st:=.busy})).get B=some (.cells [v] 72 true):=by rw[T.ag,ar (by omega)];exact hB
 have hPu:(H.set (N+1) (.loop {wR r d with st:=.busy})).get P=some (.cells [wv] e rw):=by rw[T.ag,ar (by omega)];exact hP
 have hLu:(H.set (N+1) (.loop {wR r d with st:=.busy})).get (N+1)=some (.loop {wR r d with st:=.busy}):=by rw[T.ag,aF rfl]
 have U1:dP (DU N B) H n (H.set (N+1) (.loop {wR r d with st:=.busy})) n:=⟨aW _,fun i _ hi=>by rw[T.ag,ar fun hc=>hi (.inl hc)]⟩
 have oU:=hO.o8 (o:=.loop {wR r d with st:=.busy}) hL nc
 generalize H.set (N+1) (.loop {wR r d with st:=.busy})=G at*
 have lB:B<n:=by omega
 have lP:P<n:=by omega
 have hLB:¬N+1<B:=by omega
 simp[A.rn,h5,h3,hBu,hPu,lB,lP]
 refine aA (Yig sW.1 Ih.1 (by omega) qa qb hj jW (by omega)) ?_
 rintro y H2 n2 k2 hy
 have kI:=k2.le
 have HC:=(k2.get B (by omega)).trans hBu
 have gL2:=(k2.get (N+1) (by omega)).trans hLu
 have o2:=oU.ae k2
 have lB2:B<n2:=by omega
 obtain⟨f1,f2,f3⟩:=hy.1.form
 have pq:ad [V.aa] 0 [y]=[y]:=rfl
 simp[-V.cells, -V.one,f1,f2,pq]
 have kD:ab H2 n2 (H2.set n2 (.cells [y] 76 true)) (n2+1):=ab.refl.new _
 obtain⟨v',h',w',j1,j2,j3,j4⟩:=iC.push (N0:=N+2) (x:=.slice n2 0 1 (some 1) 1) (w:=[]) (o2.ae kD) (hy.ae kD) (by omega) (by simp[eD,St.row,aE]) (by rw[Ylf];omega)
 have Am:=(j3.get B (by omega)).trans ((kD.get B lB2).trans HC)
 have Ny:=(j3.get (N+1) (by omega)).trans ((kD.get (N+1) (by omega)).trans gL2)
 have lB3:B<n2+1+1:=by omega
 have ov:=j4.form
 have ovv:=hO.form
 have U3:dP (DU N B) H n h' (n2+1+1):=((U1.trans k2.upd).trans kD.upd).trans ⟨by omega,fun i hi hd=>j3.get i (by unfold DU at hd;omega)⟩
 have g4:(h'.set B (.cells [v'] 72 true)).get (N+1)=some (.loop {wR r d with st:=.busy}):=by rw[T.ag,ar (by omega)];exact Ny
 have o4:=j4.YC (z:=v') (by omega) Am ovv.2.2
 have nc2:Fs (.loop {wR r d with st:=.busy}):=fun c e w h=>by cases h
 have sQ:=@Yf5 k m ry
 simp[-V.cells, -V.one,j1,h5,Am,lB3,bO,ov.1,ov.2.1,ad]
 refine⟨{wR r d with st:=.busy},by rw[ar (by omega)];exact Ny,rfl,?_,(U3.set (.inl (.inr (.inl rfl)))).set (.inl (.inl rfl)),rfl,v',by rw[ar (by omega)],?_⟩
 ·rw[ar hLB]
  refine xy fun i hi=>?_
  rcases kb.1 hi with hi|hi
  ·have:=ye (j2.trans rfl) i (yC hi).1
   omega
  ·rcases kv.1 hi with rfl|hi
   ·omega
   ·exact ye hW i hi
 ·rw[sQ]
  exact o4.o8 g4 nc2
set_option maxHeartbeats 2000000
def A.rz:av:=sr [bi 9 .lss 8 7]
 (.seq (cd 9
 (.skip)
 (.exit 0))
 (.seq (.block 1 (sr [mv 10 8,mv 3 10]
 (sr [mv 11 0,mv 12 3,ld 13 1,mv 14 3,c2 15 66 13 14,ge 16 (.call (tq 11) [tq 12,tq 15]),ge 17 (.un .not (tq 16))]
 (cd 17
 (.ret)
 (.skip)))))
 (.aR [bc 18 .add 8 1,mv 8 18])))
def A.b165:av:=sr [ld 4 1,ge 5 (.aU 1 (tq 4) (kq 0)),ld 6 5,ln 7 6,mc 8 0]
 (.block 0 (.loop A.rz))
def A.c165:A.F 165=some ⟨19,[],A.b165⟩:=by kernel_rfl
def A.k165:=@A.kk 165 _ _ _ A.c165 rfl
variable {m:List (List Rat)} {n:Nat}
def Yfj{k i:Nat}(hk:k<n)(hi:i<m.length):dR (fg m n) k i=dR m i k:=by
 unfold dR fg iQ
 simp only[gG,FG hk,xz,rM,cZ hi]
def QQ:cD (fg m n) m.length:=fun r hr=>by
 unfold fg at hr
 obtain⟨k,_,rfl⟩:=eM.1 hr
 simp[iQ]
def Ynj{a b:List (List Rat)}(h:a.length=b.length)(ha:cD a n)(hb:cD b n)(he:∀i j,i<a.length->j<n->dR a i j=dR b i j):a=b:=by
 apply List.ext_getElem h
 intro i h1 h2
 have l1:=ha.at h1
 have l2:=hb.at h2
 rw[cZ h1]at l1
 rw[cZ h2]at l2
 simp only[rM]at l1 l2
 apply QS (by rw[l1,l2])
 intro j hj
 have:=he i j h1 (by omega)
 unfold dR at this
 rw[cZ h1,cZ h2]at this
 exact this
def Yt(h:cD m n):fg (fg m n) m.length=m:=by
 have hl:(fg m n).length=n:=sh
 apply Ynj (n:=n) sh (by have:=@QQ (fg m n) m.length;rw[hl]at this;exact this) h
 intro i j hi hj
 rw[sh]at hi
 rw[Yfj hi (by rw[hl];exact hj),Yfj hj hi]
end Go.Mx
