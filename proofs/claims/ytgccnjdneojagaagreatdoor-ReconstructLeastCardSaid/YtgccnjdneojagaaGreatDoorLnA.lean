/-Finite sums-/
import Derived.Test.YtgccnjdneojagaaGreatDoorSpC
set_option linter.all false
set_option maxHeartbeats 4000000
namespace Go.Mx
noncomputable section
open Go Go.Proofs
variable {d i j k:Nat} {m:List (List Rat)}
set_option maxRecDepth 1000000
def sN(f:Nat->Rat):Nat->Rat
 |0=>0
 |n+1=>sN f n+f n
def bq{f g:Nat->Rat}:∀{n:Nat},(∀i,i<n->f i=g i)->sN f n=sN g n
 |0,_=>rfl
 |n+1,h=>by
  unfold sN
  rw[bq fun i hi=>h i (by omega),h n (by omega)]
def w_{f g:Nat->Rat}:∀{n:Nat},sN (fun i=>f i+g i) n=sN f n+sN g n
 |0=>by simp[sN,Rat.add_zero]
 |n+1=>by
  unfold sN
  rw[w_]
  grind
def gm{f:Nat->Rat}{c:Rat}:∀{n:Nat},sN (fun i=>c*f i) n=c*sN f n
 |0=>by simp[sN,Rat.mul_zero]
 |n+1=>by
  unfold sN
  rw[gm]
  grind
def pJ{f:Nat->Rat}:∀{n:Nat},(∀i,i<n->f i=0)->sN f n=0
 |0,_=>rfl
 |n+1,h=>by
  unfold sN
  rw[pJ fun i hi=>h i (by omega),h n (by omega),Rat.add_zero]
def A6{f:Nat->Nat->Rat}{m:Nat}:∀{n:Nat},sN (fun i=>sN (f i) m) n=sN (fun j=>sN (fun i=>f i j) n) m
 |0=>(pJ (n:=m) fun _ _=>rfl).symm
 |n+1=>by
  show sN (fun i=>sN (f i) m) n+sN (f n) m=sN (fun j=>sN (fun i=>f i j) n+f n j) m
  rw[A6,<-w_]
def NA{f:Nat->Rat}:∀{n:Nat},(∀i,i<n->0<=f i)->0<=sN f n
 |0,_=>Rat.le_refl
 |n+1,h=>Rat.add_nonneg (NA fun i hi=>h i (by omega)) (h n (by omega))
def NB{f:Nat->Rat}:∀{n:Nat},(∀i,i<n->0<=f i)->sN f n=0->∀i,i<n->f i=0
 |0,_,_,i,hi=>by omega
 |n+1,h,e,i,hi=>by
  have h1:=NA (n:=n) fun i hi=>h i (by omega)
  have h2:=h n (by omega)
  have e':sN f n+f n=0:=e
  by_cases CW:i=n
  ·subst CW
   grind
  ·exact NB (n:=n) (fun i hi=>h i (by omega)) (by grind) i (by omega)
def ve{f:Nat->Rat}{i:Nat}:∀{n:Nat},i<n->(∀j,j<n->j≠i->f j=0)->sN f n=f i
 |0,h,_=>by omega
 |n+1,h,hz=>by
  unfold sN
  by_cases e:i=n
  ·subst e
   rw[pJ fun j hj=>hz j (by omega) (by omega),Rat.zero_add]
  ·rw[ve (n:=n) (by omega) fun j hj aZ=>hz j (by omega) aZ,hz n (by omega) (by omega),Rat.add_zero]
def Y6{a b:List Rat}:∀{n:Nat},kY a b n=sN (fun i=>a[i]?.getD 0*b[i]?.getD 0) n
 |0=>rfl
 |n+1=>by
  unfold kY sN
  rw[Y6]
def dS(m:List (List Rat))(c:Nat)(v:Nat->Rat):Prop:=∀i,i<m.length->sN (fun j=>al m i j*v j) c=0
def Yty{c p:Nat}{v:Nat->Rat}(hd:d<m.length)(hp:p<m.length):dS (cA m d p) c v↔dS m c v:=by
 have hs:∀i,sN (fun j=>al (cA m d p) i j*v j) c=if i=d then sN (fun j=>al m p j*v j) c else if i=p then sN (fun j=>al m d j*v j) c else sN (fun j=>al m i j*v j) c:=fun i=>by
  split
  ·exact bq fun j _=>by rw[Ib hd hp,av (by assumption)]
  split
  ·exact bq fun j _=>by rw[Ib hd hp,ak (by assumption),av (by assumption)]
  exact bq fun j _=>by rw[Ib hd hp,ak (by assumption),ak (by assumption)]
 unfold dS;rw[qJ];constructor
 ·intro h i hi;by_cases e:i=p
  ·have:=h d hd;rw[hs,av rfl]at this;rw[e];exact this
  by_cases e2:i=d
  ·have:=h p hp;rw[hs]at this;by_cases e3:p=d
   ·rw[av e3]at this;rw[e2,<-e3];exact this
   rw[ak e3,av rfl]at this;rw[e2];exact this
  have:=h i hi;rw[hs,ak e2,ak e]at this;exact this
 intro h i hi;rw[hs];split
 ·exact h p hp
 split
 ·exact h d hd
 exact h i hi
def Ytz{c:Nat}{v:Nat->Rat}(hd:d<m.length)(h0:al m d k≠0):dS (gJ m d k) c v↔dS m c v:=by
 have hs:∀i,sN (fun j=>al (gJ m d k) i j*v j) c=if i=d then (al m d k)⁻¹*sN (fun j=>al m d j*v j) c else sN (fun j=>al m i j*v j) c:=fun i=>by
  split
  ·rw[<-gm];exact bq fun j _=>by rw[SR hd,av (by assumption),Rat.div_def];grind
  exact bq fun j _=>by rw[SR hd,ak (by assumption)]
 unfold dS;rw[CM];constructor
 ·intro h i hi;have:=h i hi;rw[hs]at this;by_cases e:i=d
  ·rw[av e]at this;rw[e];rcases Rat.mul_eq_zero.1 this with h1|h1
   ·exact absurd h1 (fun hc=>h0 (by rw[<-Rat.inv_inv (al m d k),hc,Rat.inv_zero]))
   exact h1
  rw[ak e]at this;exact this
 intro h i hi;rw[hs];split
 ·rw[h d hd,Rat.mul_zero]
 exact h i hi
def Yt0{c:Nat}{v:Nat->Rat}(hc:aU m c)(hd:d<m.length):dS (de m d k m.length) c v↔dS m c v:=by
 have hs:∀i,i<m.length->sN (fun j=>al (de m d k m.length) i j*v j) c=if i=d then sN (fun j=>al m i j*v j) c else sN (fun j=>al m i j*v j) c+ -al m i k*sN (fun j=>al m d j*v j) c:=fun i hi=>by
  split
  ·exact bq fun j _=>by rw[SS hc hi hd,av (by assumption)]
  rw[<-gm,<-w_];exact bq fun j _=>by rw[SS hc hi hd,ak (by assumption)];grind
 unfold dS;rw[CL];constructor
 ·intro h i hi;have pM:=h d hd;rw[hs d hd,av rfl]at pM;have:=h i hi;rw[hs i hi,pM,Rat.mul_zero,Rat.add_zero]at this;split at this<;>exact this
 intro h i hi;rw[hs i hi,h d hd,h i hi,Rat.mul_zero,Rat.add_zero];split<;>rfl
def Yng{s:List (List Rat)×Nat×List Nat}{c:Nat}{v:Nat->Rat}(hc:aU s.1 c):dS (iF s k).1 c v↔dS s.1 c v:=by
 obtain⟨m,d,ps⟩:=s;simp only at hc;have hle:=@FV m k (m.length-d) d;unfold iF;simp only;split
 ·rename_i hp;have ew:d<m.length:=by unfold fh at hp;omega
  have aZ:al m (fh m d k) k≠0:=@HU m k (m.length-d) d (by unfold fh at hp;omega);have jX:=(hc.D4 ew hp).K6 (d:=d) (k:=k) (by rw[qJ];exact ew);have jq:(gJ (cA m d (fh m d k)) d k).length=m.length:=by rw[CM,qJ]
  have h3:=Yt0 (k:=k) (d:=d) (v:=v) jX (by rw[jq];exact ew);rw[jq]at h3;show dS (de (gJ (cA m d (fh m d k)) d k) d k m.length) c v↔_;rw[h3,Ytz (by rw[qJ];exact ew) (by rw[Ib ew hp,av rfl];exact aZ),Yty ew hp]
 exact Iff.rfl
def Yia{m:List (List Rat)}{c:Nat}{v:Nat->Rat}(hc:aU m c):∀{n:Nat},dS (aD m n).1 c v↔dS m c v
 |0=>Iff.rfl
 |n+1=>by
  rw[wV,Yng (pH hc).1]
  exact Yia hc
def xb{c:Nat}{v:Nat->Rat}(hc:aU m c):dS (aK m c) c v↔dS m c v:=by
 rw[<-Yia hc (n:=c)];have I:=mU hc (n:=c);have hl:=nO (n:=c) hc;unfold dS;constructor
 ·intro h i hi;by_cases e:i<(aD m c).2.1
  ·rw[<-h i (by rw[hl];exact e)];exact bq fun j _=>by rw[Lc e]
  exact pJ fun j hj=>by rw[I.rest i j (by omega) hi hj,Rat.zero_mul]
 intro h i hi;rw[hl]at hi;rw[<-h i (by have:=I.le;omega)];exact bq fun j _=>by rw[Lc hi]
def Ns{c:Nat}(hc:aU m c)(hi:i<(aD m c).2.1)(hj:j<(aD m c).2.1):al (aK m c) j ((aD m c).2.2[i]?.getD 0)=if j=i then 1 else 0:=by have I:=mU hc (n:=c);rw[Lc hj];exact I.one i j hi (by have:=I.le;omega)
def gp(m:List (List Rat))(c k j:Nat):Rat:=if j=k then 1 else if j∈(aD m c).2.2 then -al (aK m c) ((aD m c).2.2.idxOf j) k else 0
def Yxs{c:Nat}(h:j<c):(At (aK m c) (aD m c).2.2 c k)[j]?.getD 0=gp m c k j:=by simp[At,gp,h]
def K9{c:Nat}(hc:aU m c)(h:j∈(aD m c).2.2):∃i,i<(aD m c).2.1/\(aD m c).2.2[i]?.getD 0=j/\(aD m c).2.2.idxOf j=i:=by
 have I:=mU hc (n:=c);obtain⟨i,hi⟩:=pK h;have hl:i<(aD m c).2.1:=by rw[<-I.len];exact(yK.1 hi).1
 have e:(aD m c).2.2[i]?.getD 0=j:=by rw[hi];rfl
 exact⟨i,hl,e,by rw[<-e];exact I.idx hl⟩
def S7{c:Nat}{v:Nat->Rat}(hc:aU m c)(hi:i<(aD m c).2.1):sN (fun j=>al (aK m c) i j*v j) c=v ((aD m c).2.2[i]?.getD 0)+sN (fun j=>if j∈(aD m c).2.2 then 0 else al (aK m c) i j*v j) c:=by
 have I:=mU hc (n:=c);have hp:=I.lt i hi;have e1:sN (fun j=>if j=(aD m c).2.2[i]?.getD 0 then v j else 0) c=v ((aD m c).2.2[i]?.getD 0):=by rw[ve (i:=(aD m c).2.2[i]?.getD 0) hp fun j _ aZ=>by rw[ak aZ],av rfl]
 rw[<-e1,<-w_];apply bq;intro j _;by_cases hj:j∈(aD m c).2.2
 ·obtain⟨a,ha,ea,_⟩:=K9 hc hj;rw[av hj,Rat.add_zero,<-ea,Ns hc ha hi];by_cases e:i=a
  ·subst e;rw[av rfl,av rfl,Rat.one_mul]
  rw[ak e,Rat.zero_mul,ak];intro h;rcases Nat.lt_or_gt_of_ne e with h1|h1
  ·have:=I.xc _ _ h1 ha;omega
  have:=I.xc _ _ h1 hi;omega
 rw[ak hj,ak,Rat.zero_add];intro h;subst h;rw[ct (by rw[I.len];exact hi)]at hj;exact hj (List.getElem_mem _)
def FY{c:Nat}(hc:aU m c)(hk:k<c)(hf:k∉(aD m c).2.2):dS m c (gp m c k):=by
 rw[<-xb hc];intro i hi;rw[nO hc]at hi;have I:=mU hc (n:=c);have S8:(aD m c).2.2[i]?.getD 0∈(aD m c).2.2:=by rw[ct (by rw[I.len];exact hi)];exact List.getElem_mem _
 rw[S7 hc hi,ve (i:=k) hk]
 ·rw[ak hf];have aZ:¬(aD m c).2.2[i]?.getD 0=k:=fun h=>by rw[h]at S8;exact hf S8
  unfold gp;rw[av rfl,ak aZ,av S8,I.idx hi];grind
 intro j _ aZ;by_cases hj:j∈(aD m c).2.2
 ·rw[av hj]
 rw[ak hj];unfold gp;rw[ak aZ,ak hj,Rat.mul_zero]
def Zyv{G:List (List Rat)}{n:Nat}(hG:aU G n)(h:∀v,dS G n v->∀j,j<n->v j=0):(aD G n).2.1=n:=by
 have I:=mU hG (n:=n);have hf:=Ij (ps:=(aD G n).2.2) (n:=n) (fun i hi=>I.lt i (by rw[<-I.len];exact hi)) (fun i j h1 h2=>I.xc i j h1 (by rw[<-I.len];exact h2));rw[I.len]at hf;by_cases e:(aD G n).2.1=n
 ·exact e
 exfalso;obtain⟨k,hk⟩:=bj (l:=iw (aD G n).2.2 n) (k:=0) (by omega);have hm:=cy hk;simp only[iw,List.mem_filter,iL]at hm;have YX:k∉(aD G n).2.2:=by simpa using hm.2
 have:=h _ (FY hG hm.1 YX) k hm.1;simp[gp]at this
def Ya9{G:List (List Rat)}{n:Nat}(hG:aU G n)(hl:G.length=n)(h:∀v,dS G n v->∀j,j<n->v j=0):∃H,CX G n=some H:=by
 have f:=Zyv hG h;have hX:aU (List.replicate n ([]:List Rat)) 0:=fun r hr=>by rw[(Im.1 hr).2];rfl
 have hw:dL G (List.replicate n [])=G:=by
  unfold dL;apply List.ext_getElem (by simp);intro i h1 h2;have:(List.replicate n ([]:List Rat))[i]?.getD []=[]:=by rw[List.getElem?_replicate];split<;>rfl
  simp only[List.getElem_map,List.getElem_range,ct h2,il,this,zQ]
 have hW:=yL hG (Y7 (n:=n)) (by rw[Y8,hl];exact aM _);have lW:(dL G (yM n)).length=n:=by rw[Au,hl]
 have hE:=Y9 (C:=dt (List.replicate n ([]:List Rat)) 0) hW (Nat.le_add_right n n) (aM n);rw[<-Zzq hG hl hX (by simp),hw]at hE;have f2:(aD (dL G (yM n)) n).2.1=n:=by rw[hE]at f;exact f
 have e1:=Nm (f2.trans lW.symm) (n:=n);have J:=mU hW (n:=n);rw[f2]at J;unfold CX;rw[e1,av ⟨f2,fun i hi=>S9 J hi⟩];exact⟨_,rfl⟩
variable {N z:Nat} {h:T O} {u v:V} {w:List Nat}
def A.b165:=A.q Tryz.f165
def A.k165:=@A.kk 165 8 [.tmp 2] A.b165 (by kernel_rfl) rfl
def Io(N0:Nat)(h:T O)(N:Nat)(v:V)(l:List Rat):Prop:=∃cs:List (List V),Own 4 96 N0 h N v cs/\(cs=[]->v=.aa)/\cs.length=l.length/\∀(j:Nat) (q:Rat),l[j]?=some q->∃c,cs[j]?=some c/\fS h N c q
def Yfp{c:List V}{z o:Nat}:∀{l:List (List V)},(∀(j:Nat) (x:List V),l[j]?=some x->aP c (o+j*z) z=some x)->o+l.length*z<=c.length->aP c o (l.length*z)=some l.flatten
 |[],_,h=>by
  unfold aP
  rw[av (by simpa using h)]
  simp
 |x::t,h,hl=>by
  have h0:=h 0 x rfl
  rw[Nat.zero_mul,gE]at h0
  have ih:=Yfp (c:=c) (z:=z) (o:=o+z) (l:=t) (fun j y hy=>by
   have:=h (j+1) y hy
   rw[js,Nat.one_mul]at this
   rw[show o+z+j*z=o+(j*z+z) by omega]
   exact this) (by rw[bl,js,Nat.one_mul]at hl;omega)
  obtain⟨_,e1⟩:=Nx h0
  obtain⟨_,e2⟩:=Nx ih
  unfold aP
  rw[av hl,bl,js,Nat.one_mul,Nat.add_comm (t.length*z) z,List.take_add,List.drop_drop,List.flatten_cons,e2,<-e1]
def Ypg{l:List (List V)}(s:Sn z h N u l):fQ ⟨h,N,w⟩ z u=some (l.length,l.flatten):=by
 rcases s with⟨rfl,rfl|rfl⟩|⟨i,o,cp,c,e,rj,rfl,_,h3,h4,h5,_⟩
 ·rfl
 ·rfl
 have:=Yfp h4 h5;simp[fQ,St.row,h3,this]
def Yl9{e:TypeId}{N0:Nat}{l xs:List (List V)}{bytes:Nat}{Y:V->Prop}(s:Own z e N0 h N v l)(hn:l=[]->v=.aa)(hY:∀c∈l,∀y∈c,Y y)(hN:N0<=N)(hz:0<z)(hx:∀x∈xs,x.length=z)(h0:0<xs.length)(hu:fQ ⟨h,N,w⟩ z u=some (xs.length,xs.flatten))(hb:2*(l.length+xs.length)*bytes<=281474976710656):
  ∃v' h' w',oc ⟨h,N,w⟩ z bytes e v u=some (v',⟨h',N+1,w'⟩)/\ay N0 w'=ay N0 w/\ab h N0 h' (N+1)/\dR (fun i=>i∈dm v) h N h' (N+1)/\n_ e Y h v/\Own z e N0 h' (N+1) v' (l++xs):=by
 obtain⟨hl,s⟩:=s;have kM:∀y∈l++xs,y.length=z:=fun y hy=>by
  rcases jn.1 hy with hy|hy
  ·exact hl y hy
  exact hx y hy
 have pN:z≠0:=by omega
 have NC:xs.length≠0:=by omega
 rcases s with⟨rfl,rfl⟩|⟨i,rfl,h2,h3,h4⟩
 ·refine⟨.slice N 0 xs.length none z,h.set N (.cells xs.flatten e true),w,?_,rfl,⟨by omega,fun j hj=>by rw[T.ag,ak (by omega)]⟩,⟨xf _,fun j hj _=>by rw[T.ag,ak (by omega)]⟩,n_.nil,kM,.inr ⟨N,by simp,hN,by omega,by rw[T.ag];simp⟩⟩;have vi:2*xs.length*bytes<=281474976710656:=by simpa using hb
  simp only[oc,hu,zR,St.alloc];simp[vi,pN,NC]
 have jr:=yN hl;have hmul:(l.length+xs.length)*z=l.length*z+xs.length*z:=js ..;have pO:0<xs.length*z:=zN h0 hz;refine⟨.slice N 0 (l.length+xs.length) none z,(h.set i .dead).set N (.cells (l.flatten++xs.flatten) e true),i::w,?_,by simp[ay,wz.2 h2],⟨by omega,fun j hj=>by rw[T.ag,ak (by omega),T.ag,ak (by omega)]⟩,⟨xf _,fun j hj hd=>?_⟩,fun j hj=>?_,kM,.inr ⟨N,by simp,hN,by omega,by rw[T.ag];simp⟩⟩
 ·simp only[oc,hu,zR,St.row,h4];rw[ak NC,ak (by rintro(h|h|h)<;>omega)];simp only[if_true];rw[ak (by rw[jr];omega),av ⟨by rw[jr];omega,trivial,trivial⟩];rfl
 ·rw[T.ag,ak (by omega),T.ag,ak (fun hc=>hd (by simp[dm,hc]))]
 simp only[dm,u9]at hj;subst hj;refine⟨_,h4,fun hc=>?_,fun y hy=>?_⟩
 ·rw[hc]at jr;have:l.length=0:=by
   rcases Nat.mul_eq_zero.1 jr.symm with h|h
   ·exact h
   omega
  have:=hn (th this);cases this
 obtain⟨c,hc,Ip⟩:=List.mem_flatten.1 hy;exact hY c hc y Ip
def Io.many{N0:Nat}{a b:List Rat}(s:Io N0 h N v a)(hu:jm h N u b)(h0:0<b.length)(hN:N0<=N)(hl:a.length+b.length<100000):
  ∃v' h' w',oc ⟨h,N,w⟩ 4 64 96 v u=some (v',⟨h',N+1,w'⟩)/\ay N0 w'=ay N0 w/\ab h N0 h' (N+1)/\Io N0 h' (N+1) v' (a++b):=by
 obtain⟨cs,h1,h2,h3,h4⟩:=s;obtain⟨ds,d1,d2,d3⟩:=hu;have dl:∀x∈ds,x.length=4:=fun x hx=>by
  obtain⟨j,hj⟩:=pK hx;obtain⟨r,hr⟩:=bj (l:=b) (k:=j) (by have:=gI hj;omega);obtain⟨c',g1,g2⟩:=d3 j r hr;rw[hj]at g1;obtain rfl:x=c':=by simpa using g1
  exact g2.len.1
 obtain⟨v',h',w',f1,f2,f3,f4,fD,f5⟩:=Yl9 (Y:=NW) (bytes:=64) (w:=w) h1 h2 (fun c hc y hy=>by
  obtain⟨j,hj⟩:=pK hc
  obtain⟨r,hr⟩:=bj (l:=a) (k:=j) (by have:=gI hj;omega)
  obtain⟨c',g1,g2⟩:=h4 j r hr
  rw[hj]at g1
  obtain rfl:c=c':=by simpa using g1
  exact g2.Ng y hy) hN (by decide) dl (by omega) (Ypg d1) (by omega);refine⟨v',h',w',f1,f2,f3,cs++ds,f5,fun hc=>?_,by simp[h3,d2],fun j r hr=>?_⟩
 ·rw[List.append_eq_nil_iff]at hc;rw[hc.2]at d2;simp at d2;omega
 by_cases hj:j<a.length
 ·rw[mH hj]at hr;obtain⟨c',g1,g2⟩:=h4 j r hr;exact⟨c',by rw[mH (by omega)];exact g1,g2.cf f4 fD⟩
 rw[qI (by omega)]at hr;obtain⟨c',g1,g2⟩:=d3 _ r hr;exact⟨c',by rw[qI (by omega),h3];exact g1,g2.cf f4 fD⟩
def Io.ND{N0:Nat}{l:List Rat}(s:Io N0 h N v l):d_ h N v l:=by obtain⟨cs,h1,h2,h3,h4⟩:=s;exact YJ h1 h3 fun j hj=>by obtain⟨q,hq⟩:=bj hj;obtain⟨c,g1,g2⟩:=h4 j q hq;exact⟨c,g1,fun r hr=>by rw[hq]at hr;cases hr;exact g2⟩
def Yj4{l:List Rat}(hs:jm h N v l)(h0:0<l.length)(hl:l.length<100000):Fn A.C 165 [v] h N (fun x h' n'=>Io N h' n' x l):=by
 intro w;obtain⟨cs,h1,h2,h3⟩:=id hs;have g_:=h1;rcases g_ with⟨hn,_⟩|⟨i,o,cp,c,e,rw,rfl,q2,q3,q4,q5,q6⟩
 ·rw[hn]at h2;simp at h2;omega
 have kN:ab h N (h.set N (.cells [] 96 true)) (N+1):=ab.refl.new _;have Ec:=fun w=>Ypg (w:=w) (h1.ad kN);have aZ:cs.length≠0:=by omega
 have ha:∀w,oc ⟨h.set N (.cells [] 96 true),N+1,w⟩ 4 64 96 (.slice N 0 0 (some 0) 4) (.slice i o cs.length cp 4)=some (.slice (N+1) 0 cs.length none 4,⟨(h.set N (.cells [] 96 true)).set (N+1) (.cells cs.flatten 96 true),N+1+1,w⟩):=fun w=>by
  have hg:(h.set N (.cells [] 96 true)).get N=some (.cells [] 96 true):=by simp
  simp only[oc,Ec,zR,St.row,hg,aP,St.alloc];simp[aZ];omega
 have cl:∀x∈cs,x.length=4:=fun x hx=>by
  obtain⟨j,hj⟩:=pK hx;obtain⟨r,hr⟩:=bj (l:=l) (k:=j) (by have:=gI hj;omega);obtain⟨c',g1,g2⟩:=h3 j r hr;rw[hj]at g1;obtain rfl:x=c':=by simpa using g1
  exact g2.len.1
 rw[aQ,A.k165 (by simp)];simp[A.b165,bA,F4,ha,az];have kB:ab h N ((h.set N (.cells [] 96 true)).set (N+1) (.cells cs.flatten 96 true)) (N+1+1):=(ab.refl.new _).new _;refine⟨kB,cs,⟨cl,.inr ⟨N+1,by simp,by omega,by omega,by rw[T.ag];simp⟩⟩,fun hc=>by rw[hc]at aZ;simp at aZ,h2,fun j q hq=>?_⟩;obtain⟨c',g1,g2⟩:=h3 j q hq;exact⟨c',g1,g2.ad kB⟩
variable {N j k n:Nat} {h:T O} {v:V}
def A.NF:=A.q Tryz.f166
def A.ti:=A.ql A.NF 0 []
def A.b166:=(fun x0=>A.qb A.NF [x0]) A.ti
def A.k166:=@A.kk 166 22 [.tmp 4] A.b166 (by kernel_rfl) rfl
def Ym3{f:V}{l:List V}{Q:Nat->T O->Nat->V->Prop}(Y:V->Prop)(hQ:∀j h n h' n' c u,Q j h n c->dR (fun i=>i∈dm u) h n h' n'->n_ 82 Y h u->Q j h' n' c)(hs:Sl h N v l)(hl:l.length<1000000000)(hf:∀(j:Nat) (x:V),l[j]?=some x->∀h' n',ab h N h' n'->gF A.C f [x] h' n' (fun u h2 n2=>∃y,u=y/\[y].length=1/\[y].all V.one=true/\(∀q∈[y],Y q)/\Q j h2 n2 y)):Fn A.C 166 [v,f] h N (fun u h' n'=>∃out,Own 1 82 N h' n' u out/\out.length=l.length/\∀(j:Nat),j<l.length->∃y,out[j]?=some [y]/\Q j h' n' y):=by
 intro w;have hlen:=hs.len;rw[aQ,A.k166 (by simp)];simp[A.b166,hlen];refine b_ [(5,5),(7,7),(10,20)] (fun e r st=>e=.exit 0/\ay N st.w=[]/\ab h N st.h st.n/\∃u out,r.get 5=some u/\Own 1 82 N st.h st.n u out/\out.length=l.length/\∀(j:Nat),j<l.length->∃y,out[j]?=some [y]/\Q j st.h st.n y) (fun m r st=>ay N st.w=[]/\ab h N st.h st.n/\∃k u out,k+m=l.length/\r.get 10=some (.int .i64 k)/\r.get 5=some u/\Own 1 82 N st.h st.n u out/\out.length=k/\(out=[]->u=.aa)/\(∀c∈out,∀y∈c,Y y)/\∀(j:Nat),j<k->∃y,out[j]?=some [y]/\Q j st.h st.n y) l.length ?_ ?_ ?_
 ·exact⟨by simp,ab.refl,0,.aa,[],by omega,by simp,by simp,Own.nil,rfl,fun _=>rfl,by simp,fun j hj=>by omega⟩
 ·rintro m r ⟨H,n1,W⟩ hr ef ⟨hW,hK,k,u,out,hk,jU,h5,ho,iM,wU,hY,dH⟩;simp only at hW hK ho dH;rw[bu];cases m with
  |zero=>
   have A2:k=l.length:=by omega
   subst A2;simp[A.ti,hr,ef,jU,hW,hK];exact⟨u,h5,out,ho,iM,dH⟩
  |succ m=>
   have aE:k<l.length:=by omega
   obtain⟨x,hx⟩:=bj aE;obtain⟨i,o,cc,e,rw,q1,q2,q3,q4⟩:=(hs.ad hK).at hx;have cK:(k:Int)<(l.length:Int):=by omega
   have kA:=hK;simp[A.ti,hr,jU,h5,cK,hlen,q1,q3,q4];refine DZ (hf k x hx _ _ kA) ?_;rintro y h3 n3 k3 ⟨_,rfl,c1,c2,cY,c3⟩;have jT:=k3.le;have kn:=hK.le;have kB:=kA.trans k3;have b1:V.one y=true:=by simpa using c2
   have b2:V.cells y=[y]:=by cases y<;>first|rfl|cases b1
   simp[-V.cells, -V.one,b1,b2,ae];have wm:Own 1 82 N (h3.set n3 (.cells [y] 82 true)) (n3+1) u out:=(ho.ad ((ab.refl).trans k3)).ad (ab.refl.new _);obtain⟨v',h',w',f1,f2,f3,f4,fD,f5⟩:=FT (Y:=Y) (x:=[y]) (u:=.slice n3 0 1 (some 1) 1) (bytes:=24) (w:=W) wm wU hY (by omega) (by decide) c1 (by simp[fQ,St.row,aP]) (by omega);rw[f1];have jV:¬n1<N:=by omega
   have f6:ay N w'=[]:=by rw[f2];simp[hW]
   have kz:=(kB.new (.cells [y] 82 true)).then f3;have k4:ab h3 n3 (h3.set n3 (.cells [y] 82 true)) (n3+1):=ab.refl.new _;have Ap:Q k (h3.set n3 (.cells [y] 82 true)) (n3+1) y:=hQ _ _ _ _ _ _ .aa c3 k4.upd n_.nil;simp(disch:=first|(simp;done)|omega|rfl) [ef,jU,f6];refine⟨m,by omega,kz,k+1,by omega,by simp,out++[[y]],f5,by simp[iM],by simp,fun c' hc z hz=>?_,fun j hj=>?_⟩
   ·rcases jn.1 hc with hc|hc
    ·exact hY c' hc z hz
    simp only[u9]at hc;subst hc;exact cY z hz
   by_cases rL:j<k
   ·obtain⟨y,g1,g2⟩:=dH j rL;exact⟨y,by rw[mH (by omega)];exact g1,hQ _ _ _ _ _ _ _ (hQ _ _ _ _ _ _ .aa g2 (((ab.refl).trans k3).trans k4).upd n_.nil) f4 fD⟩
   obtain rfl:j=k:=by omega
   exact⟨y,by rw[qI (by omega),iM];simp,hQ _ _ _ _ _ _ _ Ap f4 fD⟩
 rintro _ r ⟨H,n1,W⟩ hr ⟨rfl,hW,hK,u,out,h5,ho,iM,dH⟩;simp only at hW hK ho dH;simp[h5,az,hW,hK];exact⟨out,ho,iM,dH⟩
def A.b88:=A.q Tryz.f88
def A.k88:=@A.kk 88 15 [.tmp 4] A.b88 (by kernel_rfl) rfl
def A.b168:=A.q Tryz.f168
def A.k168:=@A.kk 168 7 [.tmp 3] A.b168 (by kernel_rfl) rfl
def A.b167:=A.q Tryz.f167
def A.k167:=@A.kk 167 7 [.tmp 3] A.b167 (by kernel_rfl) rfl
def Ymh{out:List (List V)}(h:∀x∈out,x.length=1):∃ys:List V,out=ys.map fun y=>[y]:=by
 induction out with
 |nil=>exact⟨[],rfl⟩
 |cons x t ih=>
  obtain⟨ys,rfl⟩:=ih fun x kL=>h x (ri _ kL);have:=h x rI;match x,this with
  |[y],_=>exact⟨y::ys,rfl⟩
def Yhw{f:V}{m:List (List Rat)}(F:List Rat->List Rat)(hs:fN h N v m)(hl:m.length<100000)(hf:∀l∈m,∀u h' n',ab h N h' n'->d_ h' n' u l->gF A.C f [u] h' n' (fun x h2 n2=>d_ h2 n2 x (F l))):Fn A.C 166 [v,f] h N (fun u h' n'=>fN h' n' u (m.map F)):=by
 obtain⟨us,h1,h2,h3⟩:=hs;have key:=Ym3 (f:=f) (Q:=fun j h n u=>∀l,(m.map F)[j]?=some l->d_ h n u l) NW (fun j h n h' n' c u hq k hd l hl=>(hq l hl).cf k hd (by simp)) h1 (by omega) ?_
 ·intro w;refine(key w).mono fun y st=>?_;rintro⟨q1,q2,out,o1,o2,o3⟩;obtain⟨ys,rfl⟩:=Ymh o1.1;refine⟨q1,q2,ys,Sn.one.1 o1.sn,by simpa[h2]using o2,fun j l hl=>?_⟩;obtain⟨y,g1,g2⟩:=o3 j (by have:=gI hl;simp at this;omega);refine⟨y,?_,g2 l hl⟩;rw[eH]at g1;cases hy:ys[j]? with
  |none=>rw[hy]at g1;simp at g1
  |some z=>rw[hy]at g1;simpa using g1
 intro j x hx h' n' hk;obtain⟨l,hl⟩:=bj (l:=m) (k:=j) (by have:=gI hx;omega);obtain⟨u,g1,g2⟩:=h3 j l hl;rw[hx]at g1;obtain rfl:x=u:=by simpa using g1
 refine fun w=>(hf l (cy hl) _ _ _ hk (g2.ad hk) w).mono fun y st=>?_;rintro⟨q1,q2,q3⟩;obtain⟨f1,f2,f3⟩:=q3.1.form;refine⟨q1,q2,y,rfl,rfl,by simp only[List.all_cons,List.all_nil,f1,Bool.and_true],by simpa using f3,fun l' kM=>?_⟩;rw[eH,hl]at kM;obtain rfl:F l=l':=by simpa using kM
 exact q3
def Yw5{P:Nat}{a u:V}{C:List (List Rat)}{l:List Rat}{e:TypeId}{rw:Bool}(hp:h.get P=some (.cells [a] e rw))(hP:P<N)(ha:fN h N a C)(hu:d_ h N u l)(hC:∀r∈C,r.length=n/\∀q∈r,Qb j q)(hn:n<=l.length)(hb:∀q∈l,Qb k q)(hj:1<=j)(hk:1<=k)(hl:n*(j+k+1)+j+k+1<=400000000)(hCl:C.length<100000):gF A.C (.func 168 [] [.ptr P 0]) [u] h N (fun x h' n'=>d_ h' n' x (C.map fun c=>dh c l)):=by intro w;rw[aQ,A.k168 (by simp)];simp[A.b168,hp];refine ar (NG ha hu.1 hC hn hb hj hk hl hCl) ?_;rintro x H2 n2 k2 hx;simp[az];exact⟨k2,hx⟩
def Av{B:List (List Rat)}{c:Nat}(hB:bH B k)(hk:1<=k):∀r∈dt B c,r.length=B.length/\∀q∈r,Qb k q:=fun r hr=>by
 unfold dt at hr
 obtain⟨i,_,rfl⟩:=bK.1 hr
 refine⟨by simp[kX],fun q hq=>?_⟩
 unfold kX at hq
 obtain⟨l,hl,rfl⟩:=bK.1 hq
 exact mS (hB l hl) hk i
def jN{B:List (List Rat)}{c:Nat}:(dt B c).length=c:=by simp[dt]
def Za{A C:List (List Rat)}(hA:bH A k)(hC:∀r∈C,r.length=n/\∀q∈r,Qb j q)(hj:1<=j)(hk:1<=k):bH (dC A C) (n*(j+k+1)+1):=fun r hr q hq=>by
 unfold dC at hr
 obtain⟨a,ha,rfl⟩:=bK.1 hr
 obtain⟨c,hc,rfl⟩:=bK.1 hq
 obtain⟨h1,h2⟩:=hC c hc
 exact CY h2 (hA a ha) hj hk (by omega)
def Aw{A C:List (List Rat)}:aU (dC A C) C.length:=fun r hr=>by
 unfold dC at hr
 obtain⟨a,ha,rfl⟩:=bK.1 hr
 rw[di]
def vj{A C:List (List Rat)}:(dC A C).length=A.length:=by simp[dC]
def Ta{c:Nat}{u:V}{A' B:List (List Rat)}(hu:fN h N u A')(hv:fN h N v B)(hA:aU A' n)(hB:aU B c)(hn:B.length<=n)(qU:0<B.length)(YV:A'.length<1000)(hBl:B.length<1000)(hc:c<1000)(qA:bH A' k)(qB:bH B j)(hj:1<=j)(hk:1<=k)(hl:B.length*(j+k+1)+j+k+1<=400000000):Fn A.C 88 [u,v] h N (fun x h' n'=>fN h' n' x (dC A' (dt B c))):=by
 intro w;obtain⟨l0,cB⟩:=bj qU;obtain⟨i2,o2,c2,e2,w2,y,q1,q2,q3,q4,q5⟩:=F5 hv cB;rw[gE]at q4;have lv:=hv.len;have zbI:(0:Int)<(B.length:Int):=by omega
 have ly:=q5.1.len;rw[hB l0 (cy cB)]at ly;rw[aQ,A.k88 (by simp)];simp[A.b88,lv,qU,q1,q3,q4,ly];refine ar (Lh hv (by omega) hB hc) ?_;rintro x H2 n2 k2 hx;have hx:=hx.Ax;obtain⟨us,f0,_⟩:=id hx;have f1:=f0.form.one;have f2:=f0.form.cells;have kC:ab H2 n2 ((H2.set n2 (.cells [.aa] 79 true)).set n2 (.cells [x] 79 true)) (n2+1):=(ab.refl.new _).set (aM _);have gC:((H2.set n2 (.cells [.aa] 79 true)).set n2 (.cells [x] 79 true)).get n2=some (.cells [x] 79 true):=by rw[T.ag,av rfl]
 have vf:ae [V.aa] 0 [x]=[x]:=rfl;simp[-V.cells, -V.one,f1,f2,vf,bO];generalize (H2.set n2 (.cells [.aa] 79 true)).set n2 (.cells [x] 79 true)=G at*;refine ar (Yhw (fun l=>(dt B c).map fun c=>dh c l) ((hu.ad k2).ad kC) (by omega) fun l kM u' h' n' k' ot=>Yw5 ((k'.get n2 (by omega)).trans gC) (by have:=k'.le;omega) ((hx.ad kC).ad k') ot (Av qB hj) (by rw[hA l kM];exact hn) (qA l kM) hj hk hl (by rw[jN];omega)) ?_;rintro z H3 n3 k3 hz;simp[az];exact⟨by have:=k2.le;omega,(k2.trans kC).trans k3,hz⟩
variable {i n:Nat} {m:List (List Rat)}
def Ed{a C:List (List Rat)}{j:Nat}(hi:i<a.length)(hj:j<C.length)(hC:aU C n):al (dC a C) i j=sN (fun l=>al C j l*al a i l) n:=by have hl:=hC.at hj;unfold al dC;rw[eH,ct hi];simp only[qO,il,eH];rw[ct hj]at hl ⊢;simp only[qO,il]at hl ⊢;unfold dh;rw[hl,Y6]
def CZ{k:Nat}(hk:k<n)(hi:i<m.length):al (dt m n) k i=al m i k:=by unfold al dt kX;simp only[eH,wY hk,qO,il,ct hi]
def C0{m:List (List Rat)}{n:Nat}:aU (dt m n) m.length:=fun r hr=>by
 unfold dt at hr
 obtain⟨k,_,rfl⟩:=bK.1 hr
 simp[kX]
def Ytm{a b:List (List Rat)}(h:a.length=b.length)(ha:aU a n)(hb:aU b n)(he:∀i j,i<a.length->j<n->al a i j=al b i j):a=b:=by apply List.ext_getElem h;intro i h1 h2;have l1:=ha.at h1;have l2:=hb.at h2;rw[ct h1]at l1;rw[ct h2]at l2;simp only[il]at l1 l2;apply Iq (by rw[l1,l2]);intro j hj;have:=he i j h1 (by omega);unfold al at this;rw[ct h1,ct h2]at this;exact this
def Zuq(h:aU m n):dt (dt m n) m.length=m:=by have hl:(dt m n).length=n:=jN;apply Ytm (n:=n) jN (by have:=@C0 (dt m n) m.length;rw[hl]at this;exact this) h;intro i j hi hj;rw[jN]at hi;rw[CZ hi (by rw[hl];exact hj),CZ hj hi]
def Yyx{w:List Rat}{k:Nat}(hi:i<m.length)(hk:k<w.length):al (m.map fun r=>CU r w) i k=al m i k*w[k]?.getD 0:=by unfold al;rw[eH,ct hi];simp only[qO,il];unfold CU;rw[eH,wY hk];rfl
def NH{x:Rat}:0<=x*x:=by
 rcases Rat.le_total (a:=0) (b:=x)with h|h
 ·exact Rat.mul_nonneg h h
 have:=Rat.mul_nonneg (a:= -x) (b:= -x) (by grind) (by grind);grind
def Tb{x:Rat}(h:x*x=0):x=0:=by rcases Rat.mul_eq_zero.1 h with h|h<;>exact h
def Yym{c:Nat}{y:Nat->Rat}(hc:aU m c)(hz:∀l,l<c->sN (fun a=>al (aK m c) a l*y a) (aD m c).2.1=0):∀a,a<(aD m c).2.1->y a=0:=fun a ha=>by
 have I:=mU hc (n:=c)
 have h:=hz _ (I.lt a ha)
 rw[ve (i:=a) ha]at h
 ·rw[Ns hc ha ha,av rfl,Rat.one_mul]at h
  exact h
 ·intro j hj aZ
  rw[Ns hc ha hj,ak aZ,Rat.zero_mul]
def Ybp{c:Nat}{y:Nat->Rat}(hc:aU m c)(hk:dS (aK m c) c fun l=>sN (fun a=>al (aK m c) a l*y a) (aD m c).2.1):∀a,a<(aD m c).2.1->y a=0:=by
 apply Yym hc;have hl:=nO (n:=c) hc;have key:sN (fun l=>sN (fun a=>al (aK m c) a l*y a) (aD m c).2.1*sN (fun a=>al (aK m c) a l*y a) (aD m c).2.1) c=0:=by
  have e1:∀l,sN (fun a=>al (aK m c) a l*y a) (aD m c).2.1*sN (fun a=>al (aK m c) a l*y a) (aD m c).2.1=sN (fun b=>y b*(al (aK m c) b l*sN (fun a=>al (aK m c) a l*y a) (aD m c).2.1)) (aD m c).2.1:=fun l=>by rw[<-gm];exact bq fun b _=>by grind
  rw[bq fun l _=>e1 l,A6];apply pJ;intro b hb;rw[gm,hk b (by rw[hl];exact hb),Rat.mul_zero]
 intro l Ay;exact Tb (NB (fun _ _=>NH) key l Ay)
def Yx0{c:Nat}{y:Nat->Rat}(hc:aU m c)(hk:dS (dC (aK m c) (aK m c)) (aD m c).2.1 y):∀a,a<(aD m c).2.1->y a=0:=by
 apply Ybp hc;have hl:=nO (n:=c) hc;have hr:=xg (n:=c) hc;intro b hb;have h:=hk b (by rw[vj];exact hb);rw[<-h];have e:∀l,al (aK m c) b l*sN (fun a=>al (aK m c) a l*y a) (aD m c).2.1=sN (fun a=>y a*(al (aK m c) a l*al (aK m c) b l)) (aD m c).2.1:=fun l=>by rw[<-gm];exact bq fun a _=>by grind
 rw[bq fun l _=>e l,A6];apply bq;intro a ha;rw[gm,Ed hb (by rw[hl];exact ha) hr];grind
def Yq1{D:List (List Rat)}{w:List Rat}{c:Nat}{y:Nat->Rat}(hD:aU D c)(hw:w.length=D.length)(hp:∀q∈w,0<q)(hk:dS (dC ((dt (dC D (aK D c)) (aD D c).2.1).map fun r=>CU r w) (dt (dC D (aK D c)) (aD D c).2.1)) (aD D c).2.1 y):∀a,a<(aD D c).2.1->y a=0:=by
 have hl:=nO (n:=c) hD;have hr:=xg (n:=c) hD;obtain⟨R,hR⟩:∃R,R=(aD D c).2.1:=⟨_,rfl⟩;obtain⟨S,hS⟩:∃S,S=dC D (aK D c):=⟨_,rfl⟩;have lS:S.length=D.length:=by rw[hS,vj]
 have Tc:∀i a,i<D.length->a<R->al S i a=sN (fun l=>al (aK D c) a l*al D i l) c:=fun i a hi ha=>by rw[hS];exact Ed hi (by rw[hl,<-hR];exact ha) hr
 rw[<-hS,<-hR]at hk;obtain⟨T,hT⟩:∃T:Nat->Rat,T=fun i=>sN (fun a=>al S i a*y a) R:=⟨_,rfl⟩;have Zb:∀i,T i=sN (fun a=>al S i a*y a) R:=fun i=>by rw[hT]
 have h1:∀a,a<R->sN (fun i=>w[i]?.getD 0*(al S i a*T i)) D.length=0:=fun a ha=>by
  have h:=hk a (by rw[vj,di,jN];exact ha);refine Eq.trans ?_ h;have e:∀i,w[i]?.getD 0*(al S i a*T i)=sN (fun b=>w[i]?.getD 0*al S i a*(al S i b*y b)) R:=fun i=>by rw[gm,Zb];grind
  rw[bq fun i _=>e i,A6];apply bq;intro b hb;rw[Ed (by rw[di,jN];exact ha) (by rw[jN];exact hb) C0,lS,Rat.mul_comm (sN _ _),<-gm];apply bq;intro i hi;rw[CZ hb (by rw[lS];exact hi),Yyx (by rw[jN];exact ha) (by rw[hw];exact hi),CZ ha (by rw[lS];exact hi)];grind
 have h2:sN (fun i=>w[i]?.getD 0*(T i*T i)) D.length=0:=by
  have e:∀i,w[i]?.getD 0*(T i*T i)=sN (fun a=>y a*(w[i]?.getD 0*(al S i a*T i))) R:=fun i=>by
   rw[show w[i]?.getD 0*(T i*T i)=w[i]?.getD 0*T i*T i by grind];conv=>lhs;arg 2;rw[Zb]
   rw[<-gm];exact bq fun a _=>by grind
  rw[bq fun i _=>e i,A6];apply pJ;intro a ha;rw[gm,h1 a ha,Rat.mul_zero]
 have wp:∀i,i<D.length->0<w[i]?.getD 0:=fun i hi=>by rw[ct (by omega)];exact hp _ (List.getElem_mem _)
 have hT0:∀i,i<D.length->T i=0:=fun i hi=>by
  have h3:=NB (fun i hi=>Rat.mul_nonneg (Rat.le_of_lt (wp i hi)) NH) h2 i hi;rcases Rat.mul_eq_zero.1 h3 with h4|h4
  ·have:=wp i hi;rw[h4]at this;exact absurd this (by decide)
  exact Tb h4
 apply Ybp hD;rw[xb hD];intro i hi;rw[<-hT0 i hi,Zb,<-hR];have e:∀l,al D i l*sN (fun a=>al (aK D c) a l*y a) R=sN (fun a=>y a*(al (aK D c) a l*al D i l)) R:=fun l=>by rw[<-gm];exact bq fun a _=>by grind
 rw[bq fun l _=>e l,A6];apply bq;intro a ha;rw[gm,Tc i a hi ha];grind
variable {G X:List (List Rat)} {N n:Nat} {h:T O}
def A.w87:=A.q Tryz.f87
def A.xh:=A.ql A.w87 0 []
def A.b87:=(fun x0=>A.qb A.w87 [x0]) A.xh
def A.k87:=@A.kk 87 53 [.tmp 4,.tmp 5] A.b87 (by kernel_rfl) rfl
def Ycf{st aB:St}{z:Nat}{i o:Nat}{cp:Option Nat}{s:Nat}{v':V}{x y:Option V}(e:oz st z (some (.slice i o n cp s)) (some x) (some y) (some none)=some (v',aB)):∀j∈dm v',j=i:=by
 unfold oz rQ at e
 simp only[F6,Src.ev]at e
 cases cp<;>simp only at e<;>repeat' split at e
 all_goals first
  |cases e;done
  |(simp only[au,bD]at e;obtain⟨rfl,_⟩:=e;simp[dm])
def d_.drop{v:V}{l:List Rat}{w:List Nat}(hu:d_ h N v l)(hn:n<=l.length)(h0:0<l.length):∃v',oz ⟨h,N,w⟩ 4 (some v) (some (some (.int .i64 n))) (some none) (some none)=some (v',⟨h,N,w⟩)/\d_ h N v' (l.drop n):=by
 obtain⟨⟨cs,h1,h2,h3⟩,h4⟩:=hu;obtain⟨v',e1,e2⟩:=Zux (w:=w) (by decide) h1 (lo:=n) (hi:=cs.length) (by omega) (aM _) (some (.int .i64 n)) none (.inl rfl) (.inr ⟨rfl,rfl⟩);rw[fU (aM _)]at e2;refine⟨v',e1,⟨cs.drop n,e2,by simp[h2],fun j q hq=>?_⟩,fun i hi=>?_⟩
 ·rw[fJ]at hq ⊢;exact h3 _ q hq
 rcases h1 with⟨hc,_⟩|⟨i',o,cp,c,e,rj,rfl,_⟩
 ·rw[hc]at h2;simp at h2;omega
 have:=Ycf e1 i hi;exact h4 i (by simp[dm,this])
def Yws{P:Nat}{u:V}{l:List Rat}{e:TypeId}{rw:Bool}(hp:h.get P=some (.cells [.int .i64 n] e rw))(hP:P<N)(hu:d_ h N u l)(hn:n<=l.length)(h0:0<l.length):gF A.C (.func 167 [] [.ptr P 0]) [u] h N (fun x h' n'=>d_ h' n' x (l.drop n)):=by intro w;obtain⟨v',e1,e2⟩:=d_.drop (w:=[]) hu hn h0;rw[aQ,A.k167 (by simp)];simp[A.b167,hp,F7,e1,az];exact⟨ab.refl,e2⟩
def Ye5{k:Nat}(h:k<G.length):(dL G X)[k]?=some (G[k]?.getD []++X[k]?.getD []):=by simp[dL,h]
def Ye4{K:Nat}(hG:bH G K)(hX:bH X K):bH (dL G X) K:=fun r hr q hq=>by
 obtain⟨i,hi,rfl⟩:=bK.1 hr
 rcases jn.1 hq with h|h
 ·exact hG.at q h
 ·exact hX.at q h
def Zuw{c:Nat}{B:Nat->Nat}{u v:V}(hu:fN h N u G)(hv:fN h N v X)(hG:aU G n)(hX:aU X c)(hl:G.length=n)(hx:X.length=n)(h0:0<n)(hn:n<100)(iy:0<c)(hc:c<100)(Ir:∀i,1<=B i)(hKq:∀k,bH (aD (dL G X) k).1 (B (aD (dL G X) k).2.1))(hB:∀i,i<n->3*B i<=400000000):Fn A.C 87 [u,v] h N (fun x h' n'=>(rS G X n c=none/\x=.aX [.aa,.bool false])\/∃H y,rS G X n c=some H/\x=.aX [y,.bool true]/\fN h' n' y H):=by
 intro w;have lu:=hu.len;have Zc:ab h N ((h.set N (.cells [.int .i64 0] 3 true)).set N (.cells [.int .i64 n] 3 true)) (N+1):=(ab.refl.new _).set (aM _);have gB0:((h.set N (.cells [.int .i64 0] 3 true)).set N (.cells [.int .i64 n] 3 true)).get N=some (.cells [.int .i64 n] 3 true):=by rw[T.ag,av rfl]
 rw[aQ,A.k87 (by simp)];simp[A.b87,lu,hl,bO,ae];generalize (h.set N (.cells [.int .i64 0] 3 true)).set N (.cells [.int .i64 n] 3 true)=G0 at*;have nD:=hu.ad Zc;have nP:=hv.ad Zc;have lW:∀t,t<=n->((dL G X).take t).length=t:=fun t ht=>by rw[ik,Au];omega
 refine b_ [(7,8),(14,30)] (fun e r st=>e=.exit 0/\ay N st.w=[]/\ab G0 (N+1) st.h st.n/\∃v,r.get 7=some v/\gg (N+1) st.h st.n v (dL G X)) (fun i r st=>ay N st.w=[]/\ab G0 (N+1) st.h st.n/\∃k v,k+i=n/\r.get 14=some (.int .i64 (k:Nat))/\r.get 7=some v/\gg (N+1) st.h st.n v ((dL G X).take k)) n ?_ ?_ ?_
 ·exact⟨by simp,ab.refl,0,_,by omega,by simp,by simp,gg.nil⟩
 ·rintro i r ⟨H,m,W⟩ hr hf ⟨hW,hK,k,y,hk,qV,h7,hO⟩;simp only at hW hK hO;rw[bu];have lm:=hK.le;cases i with
  |zero=>
   obtain rfl:k=n:=by omega
   rw[fU (by rw[Au];omega)]at hO;simp[A.xh,hr,hf,qV,h7,hW,hK];exact hO
  |succ i=>
   have aE:k<n:=by omega
   have bG:(k:Int)<(n:Int):=by omega
   obtain⟨ga,Zd⟩:=bj (l:=G) (k:=k) (by omega);obtain⟨xa,Ze⟩:=bj (l:=X) (k:=k) (by omega);have lga:=hG ga (cy Zd);have lxa:=hX xa (cy Ze);obtain⟨i1,o1,c1,e1,w1,a,q1,q2,q3,q4,q5⟩:=F5 (nD.ad hK) Zd;have lv:=hv.len;rw[hx]at lv;simp[A.xh,hr,qV,h7,bG,lu,hl,q1,q2,q3,q4];refine ar (Yj4 q5.1 (by omega) (by omega)) ?_;rintro z H2 n2 k2 hz;have kR:=k2.le;obtain⟨i3,o3,c3,e3,w3,b,p1,p2,p3,p4,p5⟩:=F5 ((nP.ad hK).ad k2) Ze;obtain⟨v1,h1,w1',j1,j2,j3,j4⟩:=Io.many (w:=[]) hz p5.1 (by omega) (by omega) (by omega);simp[-V.cells, -V.one,hr,lv,p1,p2,p3,p4,F4,j1,bG];have ft:=j4.ND;obtain⟨f1,f2,f3⟩:=ft.1.form;have k3:ab H m h1 (n2+1):=k2.then j3;have kD:ab h1 (n2+1) (h1.set (n2+1) (.cells [v1] 82 true)) (n2+1+1):=ab.refl.new _;have vf:ae [V.aa] 0 [v1]=[v1]:=rfl;obtain⟨v',h',w',s1,s2,s3,s4⟩:=gg.push (N0:=N+1) (x:=.slice (n2+1) 0 1 (some 1) 1) (w:=[]) ((hO.ad k3).ad kD) (ft.ad kD) (by omega) (by simp[fQ,St.row,aP]) (by rw[lW k (by omega)];omega);simp(disch:=first|(simp;done)|omega|rfl) [-V.cells, -V.one,hf,qV,f1,f2,vf,F4,s1];refine⟨i,by omega,HX fun j hj=>?_,((hK.trans k3).trans kD).then s3,k+1,by omega,by simp,?_⟩
   ·rcases jn.1 hj with hj|hj
    ·have:=CN (s2.trans rfl) j (CV hj).1;omega
    rcases jn.1 hj with hj|hj
    ·have:=CN (j2.trans rfl) j (CV hj).1;omega
    exact CN hW j hj
   rw[C1,Ye5 (by omega),Zd,Ze];exact s4
 rintro _ r ⟨H,m,W⟩ hr ⟨rfl,hW,hK,y,h7,hO⟩;simp only at hW hK hO;have lm:=hK.le;have I:=mU (yL hG hX (by omega)) (n:=n+c);have kK:=(pH (yL hG hX (by omega)) (n:=n+c)).2;rw[Au,hl]at kK;simp[h7];refine ar (NI hO.Ax (yL hG hX (by omega)) (by rw[Au];omega) (by rw[Au];omega) (by omega) Ir hKq fun i hi _=>hB i (by rw[Au]at hi;omega)) ?_;rintro _ H2 n2 k2 ⟨rv,pv,rfl,xj,A4⟩;have kR:=k2.le;have pP:=A4.sl;have iD:=pP.len;rw[h_]at iD;have Ee:(rT (aD (dL G X) (n+c)).2.2).length=(aD (dL G X) (n+c)).2.1:=by simp[rT,I.len]
 rw[Ee]at iD;have gN:=(k2.get N (by omega)).trans ((hK.get N (by omega)).trans gB0);have Zf:N<n2:=by omega
 have kk:=(Zc.trans (hK.trans k2));by_cases c1:(aD (dL G X) (n+c)).2.1<n
 ·have c1':((aD (dL G X) (n+c)).2.1:Int)<(n:Int):=by omega
  have hs:rS G X n c=none:=by unfold rS;rw[av (.inl c1)]
  simp[hr,iD,gN,Zf,c1',az,hW,dv.dw];exact⟨kk,hs⟩
 have hd:(aD (dL G X) (n+c)).2.1=n:=by omega
 rw[hd]at iD Ee;obtain⟨p,hp⟩:=bj (l:=(aD (dL G X) (n+c)).2.2) (k:=n-1) (by have:=I.len;omega);obtain⟨i3,o3,c3,e3,w3,p1,p2,p3,p4⟩:=pP.at (j:=n-1) (x:=.int .i64 p) (by simp[dI,rT,hp]);have wA:(n:Int)-1=((n-1:Nat):Int):=by omega
 have fV:((n-1:Nat):Int)<(n:Int):=by omega
 have Zg:n-1<n:=by omega
 have cnn:¬(n:Int)<(n:Int):=by omega
 by_cases c2:p=n-1
 ·subst c2;have hs:rS G X n c=some ((aK (dL G X) (n+c)).map (List.drop n)):=by unfold rS;rw[ak];rw[hd,hp];simp
  have rl:∀r∈aK (dL G X) (n+c),r.length=n+c:=xg (yL hG hX (by omega));simp(disch:=first|(simp;done)|omega|rfl) [hr,iD,gN,Zf,cnn,wA,p1,p2,p3,p4];refine ar (Yhw (List.drop n) xj (by rw[nO (yL hG hX (by omega)),hd];omega) fun l kM u' h' n' k' ot=>Yws ((k'.get N (by omega)).trans gN) (by have:=k'.le;omega) ot (by rw[rl l kM];omega) (by rw[rl l kM];omega)) ?_;rintro z H3 n3 k3 hz;simp[az,hW];exact⟨kk.trans k3,_,hs,hz⟩
 have c2':¬(p:Int)=((n-1:Nat):Int):=by omega
 have hs:rS G X n c=none:=by unfold rS;rw[av (.inr (by rw[hp];exact c2))]
 simp(disch:=first|(simp;done)|omega|rfl) [hr,iD,gN,Zf,cnn,wA,p1,p2,p3,p4,c2',az,hW];exact⟨kk,hs⟩
end
end Go.Mx
