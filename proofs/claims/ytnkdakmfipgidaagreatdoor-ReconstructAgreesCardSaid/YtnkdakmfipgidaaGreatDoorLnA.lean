/-Finite sums-/
import Derived.Test.YtnkdakmfipgidaaGreatDoorSpD
set_option linter.all false
set_option maxHeartbeats 4000000
namespace Go.Mx
noncomputable section
open Go Go.Proofs
variable {d i j k:Nat} {m:List (List Rat)}
set_option maxRecDepth 1000000
def sN(f:Nat->Rat):Nat->Rat
 |0=>0
 |n+1=>sN f n+f n
def bg{f g:Nat->Rat}:∀{n:Nat},(∀i,i<n->f i=g i)->sN f n=sN g n
 |0,_=>rfl
 |n+1,h=>by
  unfold sN
  rw[bg fun i hi=>h i (by omega),h n (by omega)]
def zg{f g:Nat->Rat}:∀{n:Nat},sN (fun i=>f i+g i) n=sN f n+sN g n
 |0=>by simp[sN,Rat.add_zero]
 |n+1=>by
  unfold sN
  rw[zg]
  grind
def fM{f:Nat->Rat}{c:Rat}:∀{n:Nat},sN (fun i=>c*f i) n=c*sN f n
 |0=>by simp[sN,Rat.mul_zero]
 |n+1=>by
  unfold sN
  rw[fM]
  grind
def pj{f:Nat->Rat}:∀{n:Nat},(∀i,i<n->f i=0)->sN f n=0
 |0,_=>rfl
 |n+1,h=>by
  unfold sN
  rw[pj fun i hi=>h i (by omega),h n (by omega),Rat.add_zero]
def zh{f:Nat->Nat->Rat}{m:Nat}:∀{n:Nat},sN (fun i=>sN (f i) m) n=sN (fun j=>sN (fun i=>f i j) n) m
 |0=>(pj (n:=m) fun _ _=>rfl).symm
 |n+1=>by
  show sN (fun i=>sN (f i) m) n+sN (f n) m=sN (fun j=>sN (fun i=>f i j) n+f n j) m
  rw[zh,<-zg]
def Si{f:Nat->Rat}:∀{n:Nat},(∀i,i<n->0<=f i)->0<=sN f n
 |0,_=>Rat.le_refl
 |n+1,h=>Rat.add_nonneg (Si fun i hi=>h i (by omega)) (h n (by omega))
def Nk{f:Nat->Rat}:∀{n:Nat},(∀i,i<n->0<=f i)->sN f n=0->∀i,i<n->f i=0
 |0,_,_,i,hi=>by omega
 |n+1,h,e,i,hi=>by
  have h1:=Si (n:=n) fun i hi=>h i (by omega)
  have h2:=h n (by omega)
  have e':sN f n+f n=0:=e
  by_cases CG:i=n
  ·subst CG
   grind
  ·exact Nk (n:=n) (fun i hi=>h i (by omega)) (by grind) i (by omega)
def tU{f:Nat->Rat}{i:Nat}:∀{n:Nat},i<n->(∀j,j<n->j≠i->f j=0)->sN f n=f i
 |0,h,_=>by omega
 |n+1,h,hz=>by
  unfold sN
  by_cases e:i=n
  ·subst e
   rw[pj fun j hj=>hz j (by omega) (by omega),Rat.zero_add]
  ·rw[tU (n:=n) (by omega) fun j hj aW=>hz j (by omega) aW,hz n (by omega) (by omega),Rat.add_zero]
def Yk{a b:List Rat}:∀{n:Nat},nT a b n=sN (fun i=>a[i]?.getD 0*b[i]?.getD 0) n
 |0=>rfl
 |n+1=>by
  unfold nT sN
  rw[Yk]
def ew(m:List (List Rat))(c:Nat)(v:Nat->Rat):Prop:=∀i,i<m.length->sN (fun j=>al m i j*v j) c=0
def Yrv{c p:Nat}{v:Nat->Rat}(hd:d<m.length)(hp:p<m.length):ew (cr m d p) c v↔ew m c v:=by
 have hs:∀i,sN (fun j=>al (cr m d p) i j*v j) c=if i=d then sN (fun j=>al m p j*v j) c else if i=p then sN (fun j=>al m d j*v j) c else sN (fun j=>al m i j*v j) c:=fun i=>by
  split
  ·exact bg fun j _=>by rw[HX hd hp,ar (by assumption)]
  split
  ·exact bg fun j _=>by rw[HX hd hp,ak (by assumption),ar (by assumption)]
  exact bg fun j _=>by rw[HX hd hp,ak (by assumption),ak (by assumption)]
 unfold ew;rw[pZ];constructor
 ·intro h i hi;by_cases e:i=p
  ·have:=h d hd;rw[hs,ar rfl]at this;rw[e];exact this
  by_cases e2:i=d
  ·have:=h p hp;rw[hs]at this;by_cases e3:p=d
   ·rw[ar e3]at this;rw[e2,<-e3];exact this
   rw[ak e3,ar rfl]at this;rw[e2];exact this
  have:=h i hi;rw[hs,ak e2,ak e]at this;exact this
 intro h i hi;rw[hs];split
 ·exact h p hp
 split
 ·exact h d hd
 exact h i hi
def Yrw{c:Nat}{v:Nat->Rat}(hd:d<m.length)(h0:al m d k≠0):ew (gJ m d k) c v↔ew m c v:=by
 have hs:∀i,sN (fun j=>al (gJ m d k) i j*v j) c=if i=d then (al m d k)⁻¹*sN (fun j=>al m d j*v j) c else sN (fun j=>al m i j*v j) c:=fun i=>by
  split
  ·rw[<-fM];exact bg fun j _=>by rw[Sj hd,ar (by assumption),Rat.div_def];grind
  exact bg fun j _=>by rw[Sj hd,ak (by assumption)]
 unfold ew;rw[CD];constructor
 ·intro h i hi;have:=h i hi;rw[hs]at this;by_cases e:i=d
  ·rw[ar e]at this;rw[e];rcases Rat.mul_eq_zero.1 this with h1|h1
   ·exact absurd h1 (fun hc=>h0 (by rw[<-Rat.inv_inv (al m d k),hc,Rat.inv_zero]))
   exact h1
  rw[ak e]at this;exact this
 intro h i hi;rw[hs];split
 ·rw[h d hd,Rat.mul_zero]
 exact h i hi
def Yrx{c:Nat}{v:Nat->Rat}(hc:aR m c)(hd:d<m.length):ew (df m d k m.length) c v↔ew m c v:=by
 have hs:∀i,i<m.length->sN (fun j=>al (df m d k m.length) i j*v j) c=if i=d then sN (fun j=>al m i j*v j) c else sN (fun j=>al m i j*v j) c+ -al m i k*sN (fun j=>al m d j*v j) c:=fun i hi=>by
  split
  ·exact bg fun j _=>by rw[Sk hc hi hd,ar (by assumption)]
  rw[<-fM,<-zg];exact bg fun j _=>by rw[Sk hc hi hd,ak (by assumption)];grind
 unfold ew;rw[CC];constructor
 ·intro h i hi;have pk:=h d hd;rw[hs d hd,ar rfl]at pk;have:=h i hi;rw[hs i hi,pk,Rat.mul_zero,Rat.add_zero]at this;split at this<;>exact this
 intro h i hi;rw[hs i hi,h d hd,h i hi,Rat.mul_zero,Rat.add_zero];split<;>rfl
def Ylr{s:List (List Rat)×Nat×List Nat}{c:Nat}{v:Nat->Rat}(hc:aR s.1 c):ew (iE s k).1 c v↔ew s.1 c v:=by
 obtain⟨m,d,ps⟩:=s;simp only at hc;have hle:=@FR m k (m.length-d) d;unfold iE;simp only;split
 ·rename_i hp;have dX:d<m.length:=by unfold eZ at hp;omega
  have aW:al m (eZ m d k) k≠0:=@HU m k (m.length-d) d (by unfold eZ at hp;omega);have jI:=(hc.DI dX hp).KV (d:=d) (k:=k) (by rw[pZ];exact dX);have il:(gJ (cr m d (eZ m d k)) d k).length=m.length:=by rw[CD,pZ]
  have h3:=Yrx (k:=k) (d:=d) (v:=v) jI (by rw[il];exact dX);rw[il]at h3;show ew (df (gJ (cr m d (eZ m d k)) d k) d k m.length) c v↔_;rw[h3,Yrw (by rw[pZ];exact dX) (by rw[HX dX hp,ar rfl];exact aW),Yrv dX hp]
 exact Iff.rfl
def Ygx{m:List (List Rat)}{c:Nat}{v:Nat->Rat}(hc:aR m c):∀{n:Nat},ew (aF m n).1 c v↔ew m c v
 |0=>Iff.rfl
 |n+1=>by
  rw[wg,Ylr (nR hc).1]
  exact Ygx hc
def zY{c:Nat}{v:Nat->Rat}(hc:aR m c):ew (bb m c) c v↔ew m c v:=by
 rw[<-Ygx hc (n:=c)];have I:=mE hc (n:=c);have hl:=p9 (n:=c) hc;unfold ew;constructor
 ·intro h i hi;by_cases e:i<(aF m c).2.1
  ·rw[<-h i (by rw[hl];exact e)];exact bg fun j _=>by rw[KX e]
  exact pj fun j hj=>by rw[I.rest i j (by omega) hi hj,Rat.zero_mul]
 intro h i hi;rw[hl]at hi;rw[<-h i (by have:=I.le;omega)];exact bg fun j _=>by rw[KX hi]
def KY{c:Nat}(hc:aR m c)(hi:i<(aF m c).2.1)(hj:j<(aF m c).2.1):al (bb m c) j ((aF m c).2.2[i]?.getD 0)=if j=i then 1 else 0:=by have I:=mE hc (n:=c);rw[KX hj];exact I.one i j hi (by have:=I.le;omega)
def gw(m:List (List Rat))(c k j:Nat):Rat:=if j=k then 1 else if j∈(aF m c).2.2 then -al (bb m c) ((aF m c).2.2.idxOf j) k else 0
def Yvr{c:Nat}(h:j<c):(Sm (bb m c) (aF m c).2.2 c k)[j]?.getD 0=gw m c k j:=by simp[Sm,gw,h]
def KZ{c:Nat}(hc:aR m c)(h:j∈(aF m c).2.2):∃i,i<(aF m c).2.1/\(aF m c).2.2[i]?.getD 0=j/\(aF m c).2.2.idxOf j=i:=by
 have I:=mE hc (n:=c);obtain⟨i,hi⟩:=nw h;have hl:i<(aF m c).2.1:=by rw[<-I.len];exact(wj.1 hi).1
 have e:(aF m c).2.2[i]?.getD 0=j:=by rw[hi];rfl
 exact⟨i,hl,e,by rw[<-e];exact I.idx hl⟩
def Nl{c:Nat}{v:Nat->Rat}(hc:aR m c)(hi:i<(aF m c).2.1):sN (fun j=>al (bb m c) i j*v j) c=v ((aF m c).2.2[i]?.getD 0)+sN (fun j=>if j∈(aF m c).2.2 then 0 else al (bb m c) i j*v j) c:=by
 have I:=mE hc (n:=c);have hp:=I.lt i hi;have e1:sN (fun j=>if j=(aF m c).2.2[i]?.getD 0 then v j else 0) c=v ((aF m c).2.2[i]?.getD 0):=by rw[tU (i:=(aF m c).2.2[i]?.getD 0) hp fun j _ aW=>by rw[ak aW],ar rfl]
 rw[<-e1,<-zg];apply bg;intro j _;by_cases hj:j∈(aF m c).2.2
 ·obtain⟨a,ha,ea,_⟩:=KZ hc hj;rw[ar hj,Rat.add_zero,<-ea,KY hc ha hi];by_cases e:i=a
  ·subst e;rw[ar rfl,ar rfl,Rat.one_mul]
  rw[ak e,Rat.zero_mul,ak];intro h;rcases Nat.lt_or_gt_of_ne e with h1|h1
  ·have:=I.uy _ _ h1 ha;omega
  have:=I.uy _ _ h1 hi;omega
 rw[ak hj,ak,Rat.zero_add];intro h;subst h;rw[bV (by rw[I.len];exact hi)]at hj;exact hj (List.getElem_mem _)
def FX{c:Nat}(hc:aR m c)(hk:k<c)(hf:k∉(aF m c).2.2):ew m c (gw m c k):=by
 rw[<-zY hc];intro i hi;rw[p9 hc]at hi;have I:=mE hc (n:=c);have HY:(aF m c).2.2[i]?.getD 0∈(aF m c).2.2:=by rw[bV (by rw[I.len];exact hi)];exact List.getElem_mem _
 rw[Nl hc hi,tU (i:=k) hk]
 ·rw[ak hf];have aW:¬(aF m c).2.2[i]?.getD 0=k:=fun h=>by rw[h]at HY;exact hf HY
  unfold gw;rw[ar rfl,ak aW,ar HY,I.idx hi];grind
 intro j _ aW;by_cases hj:j∈(aF m c).2.2
 ·rw[ar hj]
 rw[ak hj];unfold gw;rw[ak aW,ak hj,Rat.mul_zero]
def Zxm{G:List (List Rat)}{n:Nat}(hG:aR G n)(h:∀v,ew G n v->∀j,j<n->v j=0):(aF G n).2.1=n:=by
 have I:=mE hG (n:=n);have hf:=HZ (ps:=(aF G n).2.2) (n:=n) (fun i hi=>I.lt i (by rw[<-I.len];exact hi)) (fun i j h1 h2=>I.uy i j h1 (by rw[<-I.len];exact h2));rw[I.len]at hf;by_cases e:(aF G n).2.1=n
 ·exact e
 exfalso;obtain⟨k,hk⟩:=bj (l:=jJ (aF G n).2.2 n) (k:=0) (by omega);have hm:=cF hk;simp only[jJ,List.mem_filter,gm]at hm;have Yl:k∉(aF G n).2.2:=by simpa using hm.2
 have:=h _ (FX hG hm.1 Yl) k hm.1;simp[gw]at this
def Yly{G:List (List Rat)}{n:Nat}(hG:aR G n)(hl:G.length=n)(h:∀v,ew G n v->∀j,j<n->v j=0):∃H,Nm G n=some H:=by
 have f:=Zxm hG h;have hX:aR (List.replicate n ([]:List Rat)) 0:=fun r hr=>by rw[(Ia.1 hr).2];rfl
 have hw:dp G (List.replicate n [])=G:=by
  unfold dp;apply List.ext_getElem (by simp);intro i h1 h2;have:(List.replicate n ([]:List Rat))[i]?.getD []=[]:=by rw[List.getElem?_replicate];split<;>rfl
  simp only[List.getElem_map,List.getElem_range,bV h2,g_,this,zZ]
 have hW:=zi hG (Yvz (n:=n)) (by rw[Yok,hl];exact aO _);have lW:(dp G (yg n)).length=n:=by rw[yh,hl]
 have hE:=Ym (C:=cn (List.replicate n ([]:List Rat)) 0) hW (Nat.le_add_right n n) (aO n);rw[<-Zyi hG hl hX (by simp),hw]at hE;have f2:(aF (dp G (yg n)) n).2.1=n:=by rw[hE]at f;exact f
 have e1:=Ni (f2.trans lW.symm) (n:=n);have J:=mE hW (n:=n);rw[f2]at J;unfold Nm;rw[e1,ar ⟨f2,fun i hi=>Nn J hi⟩];exact⟨_,rfl⟩
variable {N z:Nat} {h:T O} {u v:V} {w:List Nat}
def A.b155:=A.q Tryz.f155
def A.k155:=@A.kk 155 8 [.tmp 2] A.b155 (by kernel_rfl) rfl
def Ib(N0:Nat)(h:T O)(N:Nat)(v:V)(l:List Rat):Prop:=∃cs:List (List V),Own 4 123 N0 h N v cs/\(cs=[]->v=.aa)/\cs.length=l.length/\∀(j:Nat) (q:Rat),l[j]?=some q->∃c,cs[j]?=some c/\fV h N c q
def Yem{c:List V}{z o:Nat}:∀{l:List (List V)},(∀(j:Nat) (x:List V),l[j]?=some x->aL c (o+j*z) z=some x)->o+l.length*z<=c.length->aL c o (l.length*z)=some l.flatten
 |[],_,h=>by
  unfold aL
  rw[ar (by simpa using h)]
  simp
 |x::t,h,hl=>by
  have h0:=h 0 x rfl
  rw[Nat.zero_mul,gE]at h0
  have ih:=Yem (c:=c) (z:=z) (o:=o+z) (l:=t) (fun j y hy=>by
   have:=h (j+1) y hy
   rw[ji,Nat.one_mul]at this
   rw[show o+z+j*z=o+(j*z+z) by omega]
   exact this) (by rw[bk,ji,Nat.one_mul]at hl;omega)
  obtain⟨_,e1⟩:=Np h0
  obtain⟨_,e2⟩:=Np ih
  unfold aL
  rw[ar hl,bk,ji,Nat.one_mul,Nat.add_comm (t.length*z) z,List.take_add,List.drop_drop,List.flatten_cons,e2,<-e1]
def Ynv{l:List (List V)}(s:Sn z h N u l):gb ⟨h,N,w⟩ z u=some (l.length,l.flatten):=by
 rcases s with⟨rfl,rfl|rfl⟩|⟨i,o,cp,c,e,rQ,rfl,_,h3,h4,h5,_⟩
 ·rfl
 ·rfl
 have:=Yem h4 h5;simp[gb,St.row,h3,this]
def Ykp{e:TypeId}{N0:Nat}{l xs:List (List V)}{bytes:Nat}{Y:V->Prop}(s:Own z e N0 h N v l)(hn:l=[]->v=.aa)(hY:∀c∈l,∀y∈c,Y y)(hN:N0<=N)(hz:0<z)(hx:∀x∈xs,x.length=z)(h0:0<xs.length)(hu:gb ⟨h,N,w⟩ z u=some (xs.length,xs.flatten))(hb:2*(l.length+xs.length)*bytes<=281474976710656):
  ∃v' h' w',mm ⟨h,N,w⟩ z bytes e v u=some (v',⟨h',N+1,w'⟩)/\ay N0 w'=ay N0 w/\ab h N0 h' (N+1)/\er (fun i=>i∈dk v) h N h' (N+1)/\nQ e Y h v/\Own z e N0 h' (N+1) v' (l++xs):=by
 obtain⟨hl,s⟩:=s;have jj:∀y∈l++xs,y.length=z:=fun y hy=>by
  rcases jB.1 hy with hy|hy
  ·exact hl y hy
  exact hx y hy
 have pn:z≠0:=by omega
 have Nr:xs.length≠0:=by omega
 rcases s with⟨rfl,rfl⟩|⟨i,rfl,h2,h3,h4⟩
 ·refine⟨.slice N 0 xs.length none z,h.set N (.cells xs.flatten e true),w,?_,rfl,⟨by omega,fun j hj=>by rw[T.ae,ak (by omega)]⟩,⟨wm _,fun j hj _=>by rw[T.ae,ak (by omega)]⟩,nQ.nil,jj,.inr ⟨N,by simp,hN,by omega,by rw[T.ae];simp⟩⟩;have vw:2*xs.length*bytes<=281474976710656:=by simpa using hb
  simp only[mm,hu,wu,St.alloc];simp[vw,pn,Nr]
 have kg:=AH hl;have hmul:(l.length+xs.length)*z=l.length*z+xs.length*z:=ji ..;have mF:0<xs.length*z:=z_ h0 hz;refine⟨.slice N 0 (l.length+xs.length) none z,(h.set i .dead).set N (.cells (l.flatten++xs.flatten) e true),i::w,?_,by simp[ay,wx.2 h2],⟨by omega,fun j hj=>by rw[T.ae,ak (by omega),T.ae,ak (by omega)]⟩,⟨wm _,fun j hj hd=>?_⟩,fun j hj=>?_,jj,.inr ⟨N,by simp,hN,by omega,by rw[T.ae];simp⟩⟩
 ·simp only[mm,hu,wu,St.row,h4];rw[ak Nr,ak (by rintro(h|h|h)<;>omega)];simp only[if_true];rw[ak (by rw[kg];omega),ar ⟨by rw[kg];omega,trivial,trivial⟩];rfl
 ·rw[T.ae,ak (by omega),T.ae,ak (fun hc=>hd (by simp[dk,hc]))]
 simp only[dk,uv]at hj;subst hj;refine⟨_,h4,fun hc=>?_,fun y hy=>?_⟩
 ·rw[hc]at kg;have:l.length=0:=by
   rcases Nat.mul_eq_zero.1 kg.symm with h|h
   ·exact h
   omega
  have:=hn (rS this);cases this
 obtain⟨c,hc,Ic⟩:=List.mem_flatten.1 hy;exact hY c hc y Ic
def Ib.many{N0:Nat}{a b:List Rat}(s:Ib N0 h N v a)(hu:kf h N u b)(h0:0<b.length)(hN:N0<=N)(hl:a.length+b.length<100000):
  ∃v' h' w',mm ⟨h,N,w⟩ 4 64 123 v u=some (v',⟨h',N+1,w'⟩)/\ay N0 w'=ay N0 w/\ab h N0 h' (N+1)/\Ib N0 h' (N+1) v' (a++b):=by
 obtain⟨cs,h1,h2,h3,h4⟩:=s;obtain⟨ds,d1,d2,d3⟩:=hu;have dl:∀x∈ds,x.length=4:=fun x hx=>by
  obtain⟨j,hj⟩:=nw hx;obtain⟨r,hr⟩:=bj (l:=b) (k:=j) (by have:=gZ hj;omega);obtain⟨c',g1,g2⟩:=d3 j r hr;rw[hj]at g1;obtain rfl:x=c':=by simpa using g1
  exact g2.len.1
 obtain⟨v',h',w',f1,f2,f3,f4,fD,f5⟩:=Ykp (Y:=NW) (bytes:=64) (w:=w) h1 h2 (fun c hc y hy=>by
  obtain⟨j,hj⟩:=nw hc
  obtain⟨r,hr⟩:=bj (l:=a) (k:=j) (by have:=gZ hj;omega)
  obtain⟨c',g1,g2⟩:=h4 j r hr
  rw[hj]at g1
  obtain rfl:c=c':=by simpa using g1
  exact g2.Nb y hy) hN (by decide) dl (by omega) (Ynv d1) (by omega);refine⟨v',h',w',f1,f2,f3,cs++ds,f5,fun hc=>?_,by simp[h3,d2],fun j r hr=>?_⟩
 ·rw[List.append_eq_nil_iff]at hc;rw[hc.2]at d2;simp at d2;omega
 by_cases hj:j<a.length
 ·rw[mj hj]at hr;obtain⟨c',g1,g2⟩:=h4 j r hr;exact⟨c',by rw[mj (by omega)];exact g1,g2.bY f4 fD⟩
 rw[pY (by omega)]at hr;obtain⟨c',g1,g2⟩:=d3 _ r hr;exact⟨c',by rw[pY (by omega),h3];exact g1,g2.bY f4 fD⟩
def Ib.Yn{N0:Nat}{l:List Rat}(s:Ib N0 h N v l):ec h N v l:=by obtain⟨cs,h1,h2,h3,h4⟩:=s;exact Yg h1 h3 fun j hj=>by obtain⟨q,hq⟩:=bj hj;obtain⟨c,g1,g2⟩:=h4 j q hq;exact⟨c,g1,fun r hr=>by rw[hq]at hr;cases hr;exact g2⟩
def Yim{l:List Rat}(hs:kf h N v l)(h0:0<l.length)(hl:l.length<100000):Fn A.C 155 [v] h N (fun x h' n'=>Ib N h' n' x l):=by
 intro w;obtain⟨cs,h1,h2,h3⟩:=id hs;have h_:=h1;rcases h_ with⟨hn,_⟩|⟨i,o,cp,c,e,rw,rfl,q2,q3,q4,q5,q6⟩
 ·rw[hn]at h2;simp at h2;omega
 have kN:ab h N (h.set N (.cells [] 123 true)) (N+1):=ab.refl.new _;have DN:=fun w=>Ynv (w:=w) (h1.ad kN);have aW:cs.length≠0:=by omega
 have ha:∀w,mm ⟨h.set N (.cells [] 123 true),N+1,w⟩ 4 64 123 (.slice N 0 0 (some 0) 4) (.slice i o cs.length cp 4)=some (.slice (N+1) 0 cs.length none 4,⟨(h.set N (.cells [] 123 true)).set (N+1) (.cells cs.flatten 123 true),N+1+1,w⟩):=fun w=>by
  have hg:(h.set N (.cells [] 123 true)).get N=some (.cells [] 123 true):=by simp
  simp only[mm,DN,wu,St.row,hg,aL,St.alloc];simp[aW];omega
 have cl:∀x∈cs,x.length=4:=fun x hx=>by
  obtain⟨j,hj⟩:=nw hx;obtain⟨r,hr⟩:=bj (l:=l) (k:=j) (by have:=gZ hj;omega);obtain⟨c',g1,g2⟩:=h3 j r hr;rw[hj]at g1;obtain rfl:x=c':=by simpa using g1
  exact g2.len.1
 rw[aN,A.k155 (by simp)];simp[A.b155,bh,Ie,ha,ax];have kB:ab h N ((h.set N (.cells [] 123 true)).set (N+1) (.cells cs.flatten 123 true)) (N+1+1):=(ab.refl.new _).new _;refine⟨kB,cs,⟨cl,.inr ⟨N+1,by simp,by omega,by omega,by rw[T.ae];simp⟩⟩,fun hc=>by rw[hc]at aW;simp at aW,h2,fun j q hq=>?_⟩;obtain⟨c',g1,g2⟩:=h3 j q hq;exact⟨c',g1,g2.ad kB⟩
variable {N j k n:Nat} {h:T O} {v:V}
def A.Ns:=A.q Tryz.f156
def A.rT:=A.ql A.Ns 0 []
def A.b156:=(fun x0=>A.qb A.Ns [x0]) A.rT
def A.k156:=@A.kk 156 22 [.tmp 4] A.b156 (by kernel_rfl) rfl
def Yll{f:V}{l:List V}{Q:Nat->T O->Nat->V->Prop}(Y:V->Prop)(hQ:∀j h n h' n' c u,Q j h n c->er (fun i=>i∈dk u) h n h' n'->nQ 81 Y h u->Q j h' n' c)(hs:Sl h N v l)(hl:l.length<1000000000)(hf:∀(j:Nat) (x:V),l[j]?=some x->∀h' n',ab h N h' n'->ij A.C f [x] h' n' (fun u h2 n2=>∃y,u=y/\[y].length=1/\[y].all V.one=true/\(∀q∈[y],Y q)/\Q j h2 n2 y)):Fn A.C 156 [v,f] h N (fun u h' n'=>∃out,Own 1 81 N h' n' u out/\out.length=l.length/\∀(j:Nat),j<l.length->∃y,out[j]?=some [y]/\Q j h' n' y):=by
 intro w;have hlen:=hs.len;rw[aN,A.k156 (by simp)];simp[A.b156,hlen];refine cm [(5,5),(7,7),(10,20)] (fun e r st=>e=.exit 0/\ay N st.w=[]/\ab h N st.h st.n/\∃u out,r.get 5=some u/\Own 1 81 N st.h st.n u out/\out.length=l.length/\∀(j:Nat),j<l.length->∃y,out[j]?=some [y]/\Q j st.h st.n y) (fun m r st=>ay N st.w=[]/\ab h N st.h st.n/\∃k u out,k+m=l.length/\r.get 10=some (.int .i64 k)/\r.get 5=some u/\Own 1 81 N st.h st.n u out/\out.length=k/\(out=[]->u=.aa)/\(∀c∈out,∀y∈c,Y y)/\∀(j:Nat),j<k->∃y,out[j]?=some [y]/\Q j st.h st.n y) l.length ?_ ?_ ?_
 ·exact⟨by simp,ab.refl,0,.aa,[],by omega,by simp,by simp,Own.nil,rfl,fun _=>rfl,by simp,fun j hj=>by omega⟩
 ·rintro m r ⟨H,n1,W⟩ hr dT ⟨hW,hK,k,u,out,hk,jH,h5,ho,iI,we,hY,dE⟩;simp only at hW hK ho dE;rw[bu];cases m with
  |zero=>
   have AD:k=l.length:=by omega
   subst AD;simp[A.rT,hr,dT,jH,hW,hK];exact⟨u,h5,out,ho,iI,dE⟩
  |succ m=>
   have aC:k<l.length:=by omega
   obtain⟨x,hx⟩:=bj aC;obtain⟨i,o,cc,e,rw,q1,q2,q3,q4⟩:=(hs.ad hK).at hx;have cI:(k:Int)<(l.length:Int):=by omega
   have kA:=hK;simp[A.rT,hr,jH,h5,cI,hlen,q1,q3,q4];refine DH (hf k x hx _ _ kA) ?_;rintro y h3 n3 k3 ⟨_,rfl,c1,c2,cY,c3⟩;have jG:=k3.le;have kn:=hK.le;have kB:=kA.trans k3;have b1:V.one y=true:=by simpa using c2
   have b2:V.cells y=[y]:=by cases y<;>first|rfl|cases b1
   simp[-V.cells, -V.one,b1,b2,ag];have vo:Own 1 81 N (h3.set n3 (.cells [y] 81 true)) (n3+1) u out:=(ho.ad ((ab.refl).trans k3)).ad (ab.refl.new _);obtain⟨v',h',w',f1,f2,f3,f4,fD,f5⟩:=FO (Y:=Y) (x:=[y]) (u:=.slice n3 0 1 (some 1) 1) (bytes:=24) (w:=W) vo we hY (by omega) (by decide) c1 (by simp[gb,St.row,aL]) (by omega);rw[f1];have mi:¬n1<N:=by omega
   have f6:ay N w'=[]:=by rw[f2];simp[hW]
   have kz:=(kB.new (.cells [y] 81 true)).then f3;have k4:ab h3 n3 (h3.set n3 (.cells [y] 81 true)) (n3+1):=ab.refl.new _;have zT:Q k (h3.set n3 (.cells [y] 81 true)) (n3+1) y:=hQ _ _ _ _ _ _ .aa c3 k4.upd nQ.nil;simp(disch:=first|(simp;done)|omega|rfl) [dT,jH,f6];refine⟨m,by omega,kz,k+1,by omega,by simp,out++[[y]],f5,by simp[iI],by simp,fun c' hc z hz=>?_,fun j hj=>?_⟩
   ·rcases jB.1 hc with hc|hc
    ·exact hY c' hc z hz
    simp only[uv]at hc;subst hc;exact cY z hz
   by_cases qU:j<k
   ·obtain⟨y,g1,g2⟩:=dE j qU;exact⟨y,by rw[mj (by omega)];exact g1,hQ _ _ _ _ _ _ _ (hQ _ _ _ _ _ _ .aa g2 (((ab.refl).trans k3).trans k4).upd nQ.nil) f4 fD⟩
   obtain rfl:j=k:=by omega
   exact⟨y,by rw[pY (by omega),iI];simp,hQ _ _ _ _ _ _ _ zT f4 fD⟩
 rintro _ r ⟨H,n1,W⟩ hr ⟨rfl,hW,hK,u,out,h5,ho,iI,dE⟩;simp only at hW hK ho dE;simp[h5,ax,hW,hK];exact⟨out,ho,iI,dE⟩
def A.b90:=A.q Tryz.f90
def A.k90:=@A.kk 90 15 [.tmp 4] A.b90 (by kernel_rfl) rfl
def A.b158:=A.q Tryz.f158
def A.k158:=@A.kk 158 7 [.tmp 3] A.b158 (by kernel_rfl) rfl
def A.b157:=A.q Tryz.f157
def A.k157:=@A.kk 157 7 [.tmp 3] A.b157 (by kernel_rfl) rfl
def Yky{out:List (List V)}(h:∀x∈out,x.length=1):∃ys:List V,out=ys.map fun y=>[y]:=by
 induction out with
 |nil=>exact⟨[],rfl⟩
 |cons x t ih=>
  obtain⟨ys,rfl⟩:=ih fun x mq=>h x (qz _ mq);have:=h x qQ;match x,this with
  |[y],_=>exact⟨y::ys,rfl⟩
def Ygm{f:V}{m:List (List Rat)}(F:List Rat->List Rat)(hs:gF h N v m)(hl:m.length<100000)(hf:∀l∈m,∀u h' n',ab h N h' n'->ec h' n' u l->ij A.C f [u] h' n' (fun x h2 n2=>ec h2 n2 x (F l))):Fn A.C 156 [v,f] h N (fun u h' n'=>gF h' n' u (m.map F)):=by
 obtain⟨us,h1,h2,h3⟩:=hs;have key:=Yll (f:=f) (Q:=fun j h n u=>∀l,(m.map F)[j]?=some l->ec h n u l) NW (fun j h n h' n' c u hq k hd l hl=>(hq l hl).bY k hd (by simp)) h1 (by omega) ?_
 ·intro w;refine(key w).mono fun y st=>?_;rintro⟨q1,q2,out,o1,o2,o3⟩;obtain⟨ys,rfl⟩:=Yky o1.1;refine⟨q1,q2,ys,Sn.one.1 o1.sn,by simpa[h2]using o2,fun j l hl=>?_⟩;obtain⟨y,g1,g2⟩:=o3 j (by have:=gZ hl;simp at this;omega);refine⟨y,?_,g2 l hl⟩;rw[eG]at g1;cases hy:ys[j]? with
  |none=>rw[hy]at g1;simp at g1
  |some z=>rw[hy]at g1;simpa using g1
 intro j x hx h' n' hk;obtain⟨l,hl⟩:=bj (l:=m) (k:=j) (by have:=gZ hx;omega);obtain⟨u,g1,g2⟩:=h3 j l hl;rw[hx]at g1;obtain rfl:x=u:=by simpa using g1
 refine fun w=>(hf l (cF hl) _ _ _ hk (g2.ad hk) w).mono fun y st=>?_;rintro⟨q1,q2,q3⟩;obtain⟨f1,f2,f3⟩:=q3.1.form;refine⟨q1,q2,y,rfl,rfl,by simp only[List.all_cons,List.all_nil,f1,Bool.and_true],by simpa using f3,fun l' jj=>?_⟩;rw[eG,hl]at jj;obtain rfl:F l=l':=by simpa using jj
 exact q3
def Yu4{P:Nat}{a u:V}{C:List (List Rat)}{l:List Rat}{e:TypeId}{rw:Bool}(hp:h.get P=some (.cells [a] e rw))(hP:P<N)(ha:gF h N a C)(hu:ec h N u l)(hC:∀r∈C,r.length=n/\∀q∈r,Qb j q)(hn:n<=l.length)(hb:∀q∈l,Qb k q)(hj:1<=j)(hk:1<=k)(hl:n*(j+k+1)+j+k+1<=400000000)(hCl:C.length<100000):ij A.C (.func 158 [] [.ptr P 0]) [u] h N (fun x h' n'=>ec h' n' x (C.map fun c=>e_ c l)):=by intro w;rw[aN,A.k158 (by simp)];simp[A.b158,hp];refine av (Yo ha hu.1 hC hn hb hj hk hl hCl) ?_;rintro x H2 n2 k2 hx;simp[ax];exact⟨k2,hx⟩
def CH{B:List (List Rat)}{c:Nat}(hB:bz B k)(hk:1<=k):∀r∈cn B c,r.length=B.length/\∀q∈r,Qb k q:=fun r hr=>by
 unfold cn at hr
 obtain⟨i,_,rfl⟩:=bF.1 hr
 refine⟨by simp[p_],fun q hq=>?_⟩
 unfold p_ at hq
 obtain⟨l,hl,rfl⟩:=bF.1 hq
 exact rO (hB l hl) hk i
def kh{B:List (List Rat)}{c:Nat}:(cn B c).length=c:=by simp[cn]
def Yp{A C:List (List Rat)}(hA:bz A k)(hC:∀r∈C,r.length=n/\∀q∈r,Qb j q)(hj:1<=j)(hk:1<=k):bz (du A C) (n*(j+k+1)+1):=fun r hr q hq=>by
 unfold du at hr
 obtain⟨a,ha,rfl⟩:=bF.1 hr
 obtain⟨c,hc,rfl⟩:=bF.1 hq
 obtain⟨h1,h2⟩:=hC c hc
 exact Nt h2 (hA a ha) hj hk (by omega)
def So{A C:List (List Rat)}:aR (du A C) C.length:=fun r hr=>by
 unfold du at hr
 obtain⟨a,ha,rfl⟩:=bF.1 hr
 rw[cG]
def K0{A C:List (List Rat)}:(du A C).length=A.length:=by simp[du]
def Yq{c:Nat}{u:V}{A' B:List (List Rat)}(hu:gF h N u A')(hv:gF h N v B)(hA:aR A' n)(hB:aR B c)(hn:B.length<=n)(ki:0<B.length)(Yr:A'.length<1000)(hBl:B.length<1000)(hc:c<1000)(qA:bz A' k)(qB:bz B j)(hj:1<=j)(hk:1<=k)(hl:B.length*(j+k+1)+j+k+1<=400000000):Fn A.C 90 [u,v] h N (fun x h' n'=>gF h' n' x (du A' (cn B c))):=by
 intro w;obtain⟨l0,cH⟩:=bj ki;obtain⟨i2,o2,c2,e2,w2,y,q1,q2,q3,q4,q5⟩:=DO hv cH;rw[gE]at q4;have lv:=hv.len;have zbm:(0:Int)<(B.length:Int):=by omega
 have ly:=q5.1.len;rw[hB l0 (cF cH)]at ly;rw[aN,A.k90 (by simp)];simp[A.b90,lv,ki,q1,q3,q4,ly];refine av (Sp hv (by omega) hB hc) ?_;rintro x H2 n2 k2 hx;have hx:=hx.DP;obtain⟨us,f0,_⟩:=id hx;have f1:=f0.form.one;have f2:=f0.form.cells;have kC:ab H2 n2 ((H2.set n2 (.cells [.aa] 74 true)).set n2 (.cells [x] 74 true)) (n2+1):=(ab.refl.new _).set (aO _);have gC:((H2.set n2 (.cells [.aa] 74 true)).set n2 (.cells [x] 74 true)).get n2=some (.cells [x] 74 true):=by rw[T.ae,ar rfl]
 have AI:ag [V.aa] 0 [x]=[x]:=rfl;simp[-V.cells, -V.one,f1,f2,AI,bO];generalize (H2.set n2 (.cells [.aa] 74 true)).set n2 (.cells [x] 74 true)=G at*;refine av (Ygm (fun l=>(cn B c).map fun c=>e_ c l) ((hu.ad k2).ad kC) (by omega) fun l jj u' h' n' k' nU=>Yu4 ((k'.get n2 (by omega)).trans gC) (by have:=k'.le;omega) ((hx.ad kC).ad k') nU (CH qB hj) (by rw[hA l jj];exact hn) (qA l jj) hj hk hl (by rw[kh];omega)) ?_;rintro z H3 n3 k3 hz;simp[ax];exact⟨by have:=k2.le;omega,(k2.trans kC).trans k3,hz⟩
variable {i n:Nat} {m:List (List Rat)}
def AJ{a C:List (List Rat)}{j:Nat}(hi:i<a.length)(hj:j<C.length)(hC:aR C n):al (du a C) i j=sN (fun l=>al C j l*al a i l) n:=by have hl:=hC.at hj;unfold al du;rw[eG,bV hi];simp only[qc,g_,eG];rw[bV hj]at hl ⊢;simp only[qc,g_]at hl ⊢;unfold e_;rw[hl,Yk]
def yi{k:Nat}(hk:k<n)(hi:i<m.length):al (cn m n) k i=al m i k:=by unfold al cn p_;simp only[eG,AK hk,qc,g_,bV hi]
def AL{m:List (List Rat)}{n:Nat}:aR (cn m n) m.length:=fun r hr=>by
 unfold cn at hr
 obtain⟨k,_,rfl⟩:=bF.1 hr
 simp[p_]
def Yrm{a b:List (List Rat)}(h:a.length=b.length)(ha:aR a n)(hb:aR b n)(he:∀i j,i<a.length->j<n->al a i j=al b i j):a=b:=by apply List.ext_getElem h;intro i h1 h2;have l1:=ha.at h1;have l2:=hb.at h2;rw[bV h1]at l1;rw[bV h2]at l2;simp only[g_]at l1 l2;apply K3 (by rw[l1,l2]);intro j hj;have:=he i j h1 (by omega);unfold al at this;rw[bV h1,bV h2]at this;exact this
def Yd6(h:aR m n):cn (cn m n) m.length=m:=by have hl:(cn m n).length=n:=kh;apply Yrm (n:=n) kh (by have:=@AL (cn m n) m.length;rw[hl]at this;exact this) h;intro i j hi hj;rw[kh]at hi;rw[yi hi (by rw[hl];exact hj),yi hj hi]
def Sq{w:List Rat}{k:Nat}(hi:i<m.length)(hk:k<w.length):al (m.map fun r=>yk r w) i k=al m i k*w[k]?.getD 0:=by unfold al;rw[eG,bV hi];simp only[qc,g_];unfold yk;rw[eG,AK hk];rfl
def Sr{x:Rat}:0<=x*x:=by
 rcases Rat.le_total (a:=0) (b:=x)with h|h
 ·exact Rat.mul_nonneg h h
 have:=Rat.mul_nonneg (a:= -x) (b:= -x) (by grind) (by grind);grind
def Ss{x:Rat}(h:x*x=0):x=0:=by rcases Rat.mul_eq_zero.1 h with h|h<;>exact h
def Ywo{c:Nat}{y:Nat->Rat}(hc:aR m c)(hz:∀l,l<c->sN (fun a=>al (bb m c) a l*y a) (aF m c).2.1=0):∀a,a<(aF m c).2.1->y a=0:=fun a ha=>by
 have I:=mE hc (n:=c)
 have h:=hz _ (I.lt a ha)
 rw[tU (i:=a) ha]at h
 ·rw[KY hc ha ha,ar rfl,Rat.one_mul]at h
  exact h
 ·intro j hj aW
  rw[KY hc ha hj,ak aW,Rat.zero_mul]
def Ym1{c:Nat}{y:Nat->Rat}(hc:aR m c)(hk:ew (bb m c) c fun l=>sN (fun a=>al (bb m c) a l*y a) (aF m c).2.1):∀a,a<(aF m c).2.1->y a=0:=by
 apply Ywo hc;have hl:=p9 (n:=c) hc;have key:sN (fun l=>sN (fun a=>al (bb m c) a l*y a) (aF m c).2.1*sN (fun a=>al (bb m c) a l*y a) (aF m c).2.1) c=0:=by
  have e1:∀l,sN (fun a=>al (bb m c) a l*y a) (aF m c).2.1*sN (fun a=>al (bb m c) a l*y a) (aF m c).2.1=sN (fun b=>y b*(al (bb m c) b l*sN (fun a=>al (bb m c) a l*y a) (aF m c).2.1)) (aF m c).2.1:=fun l=>by rw[<-fM];exact bg fun b _=>by grind
  rw[bg fun l _=>e1 l,zh];apply pj;intro b hb;rw[fM,hk b (by rw[hl];exact hb),Rat.mul_zero]
 intro l Aa;exact Ss (Nk (fun _ _=>Sr) key l Aa)
def Ype{D:List (List Rat)}{w:List Rat}{c:Nat}{y:Nat->Rat}(hD:aR D c)(hw:w.length=D.length)(hp:∀q∈w,0<q)(hk:ew (du ((cn (du D (bb D c)) (aF D c).2.1).map fun r=>yk r w) (cn (du D (bb D c)) (aF D c).2.1)) (aF D c).2.1 y):∀a,a<(aF D c).2.1->y a=0:=by
 have hl:=p9 (n:=c) hD;have hr:=CI (n:=c) hD;obtain⟨R,hR⟩:∃R,R=(aF D c).2.1:=⟨_,rfl⟩;obtain⟨S,hS⟩:∃S,S=du D (bb D c):=⟨_,rfl⟩;have lS:S.length=D.length:=by rw[hS,K0]
 have Su:∀i a,i<D.length->a<R->al S i a=sN (fun l=>al (bb D c) a l*al D i l) c:=fun i a hi ha=>by rw[hS];exact AJ hi (by rw[hl,<-hR];exact ha) hr
 rw[<-hS,<-hR]at hk;obtain⟨T,hT⟩:∃T:Nat->Rat,T=fun i=>sN (fun a=>al S i a*y a) R:=⟨_,rfl⟩;have Ys:∀i,T i=sN (fun a=>al S i a*y a) R:=fun i=>by rw[hT]
 have h1:∀a,a<R->sN (fun i=>w[i]?.getD 0*(al S i a*T i)) D.length=0:=fun a ha=>by
  have h:=hk a (by rw[K0,cG,kh];exact ha);refine Eq.trans ?_ h;have e:∀i,w[i]?.getD 0*(al S i a*T i)=sN (fun b=>w[i]?.getD 0*al S i a*(al S i b*y b)) R:=fun i=>by rw[fM,Ys];grind
  rw[bg fun i _=>e i,zh];apply bg;intro b hb;rw[AJ (by rw[cG,kh];exact ha) (by rw[kh];exact hb) AL,lS,Rat.mul_comm (sN _ _),<-fM];apply bg;intro i hi;rw[yi hb (by rw[lS];exact hi),Sq (by rw[kh];exact ha) (by rw[hw];exact hi),yi ha (by rw[lS];exact hi)];grind
 have h2:sN (fun i=>w[i]?.getD 0*(T i*T i)) D.length=0:=by
  have e:∀i,w[i]?.getD 0*(T i*T i)=sN (fun a=>y a*(w[i]?.getD 0*(al S i a*T i))) R:=fun i=>by
   rw[show w[i]?.getD 0*(T i*T i)=w[i]?.getD 0*T i*T i by grind];conv=>lhs;arg 2;rw[Ys]
   rw[<-fM];exact bg fun a _=>by grind
  rw[bg fun i _=>e i,zh];apply pj;intro a ha;rw[fM,h1 a ha,Rat.mul_zero]
 have wp:∀i,i<D.length->0<w[i]?.getD 0:=fun i hi=>by rw[bV (by omega)];exact hp _ (List.getElem_mem _)
 have hT0:∀i,i<D.length->T i=0:=fun i hi=>by
  have h3:=Nk (fun i hi=>Rat.mul_nonneg (Rat.le_of_lt (wp i hi)) Sr) h2 i hi;rcases Rat.mul_eq_zero.1 h3 with h4|h4
  ·have:=wp i hi;rw[h4]at this;exact absurd this (by decide)
  exact Ss h4
 apply Ym1 hD;rw[zY hD];intro i hi;rw[<-hT0 i hi,Ys,<-hR];have e:∀l,al D i l*sN (fun a=>al (bb D c) a l*y a) R=sN (fun a=>y a*(al (bb D c) a l*al D i l)) R:=fun l=>by rw[<-fM];exact bg fun a _=>by grind
 rw[bg fun l _=>e l,zh];apply bg;intro a ha;rw[fM,Su i a hi ha];grind
variable {G X:List (List Rat)} {N n:Nat} {h:T O}
def A.w89:=A.q Tryz.f89
def A.wy:=A.ql A.w89 0 []
def A.b89:=(fun x0=>A.qb A.w89 [x0]) A.wy
def A.k89:=@A.kk 89 53 [.tmp 4,.tmp 5] A.b89 (by kernel_rfl) rfl
def Ya9{st aA:St}{z:Nat}{i o:Nat}{cp:Option Nat}{s:Nat}{v':V}{x y:Option V}(e:nV st z (some (.slice i o n cp s)) (some x) (some y) (some none)=some (v',aA)):∀j∈dk v',j=i:=by
 unfold nV qV at e
 simp only[FY,Src.ev]at e
 cases cp<;>simp only at e<;>repeat' split at e
 all_goals first
  |cases e;done
  |(simp only[aq,bB]at e;obtain⟨rfl,_⟩:=e;simp[dk])
def ec.drop{v:V}{l:List Rat}{w:List Nat}(hu:ec h N v l)(hn:n<=l.length)(h0:0<l.length):∃v',nV ⟨h,N,w⟩ 4 (some v) (some (some (.int .i64 n))) (some none) (some none)=some (v',⟨h,N,w⟩)/\ec h N v' (l.drop n):=by
 obtain⟨⟨cs,h1,h2,h3⟩,h4⟩:=hu;obtain⟨v',e1,e2⟩:=Ztu (w:=w) (by decide) h1 (lo:=n) (hi:=cs.length) (by omega) (aO _) (some (.int .i64 n)) none (.inl rfl) (.inr ⟨rfl,rfl⟩);rw[gp (aO _)]at e2;refine⟨v',e1,⟨cs.drop n,e2,by simp[h2],fun j q hq=>?_⟩,fun i hi=>?_⟩
 ·rw[fF]at hq ⊢;exact h3 _ q hq
 rcases h1 with⟨hc,_⟩|⟨i',o,cp,c,e,rQ,rfl,_⟩
 ·rw[hc]at h2;simp at h2;omega
 have:=Ya9 e1 i hi;exact h4 i (by simp[dk,this])
def Yut{P:Nat}{u:V}{l:List Rat}{e:TypeId}{rw:Bool}(hp:h.get P=some (.cells [.int .i64 n] e rw))(hP:P<N)(hu:ec h N u l)(hn:n<=l.length)(h0:0<l.length):ij A.C (.func 157 [] [.ptr P 0]) [u] h N (fun x h' n'=>ec h' n' x (l.drop n)):=by intro w;obtain⟨v',e1,e2⟩:=ec.drop (w:=[]) hu hn h0;rw[aN,A.k157 (by simp)];simp[A.b157,hp,FZ,e1,ax];exact⟨ab.refl,e2⟩
def Yd1{k:Nat}(h:k<G.length):(dp G X)[k]?=some (G[k]?.getD []++X[k]?.getD []):=by simp[dp,h]
def Yd0{K:Nat}(hG:bz G K)(hX:bz X K):bz (dp G X) K:=fun r hr q hq=>by
 obtain⟨i,hi,rfl⟩:=bF.1 hr
 rcases jB.1 hq with h|h
 ·exact hG.at q h
 ·exact hX.at q h
def Yek{c:Nat}{B:Nat->Nat}{u v:V}(hu:gF h N u G)(hv:gF h N v X)(hG:aR G n)(hX:aR X c)(hl:G.length=n)(hx:X.length=n)(h0:0<n)(hn:n<100)(im:0<c)(hc:c<100)(uz:∀i,1<=B i)(hKq:∀k,bz (aF (dp G X) k).1 (B (aF (dp G X) k).2.1))(hB:∀i,i<n->3*B i<=400000000):Fn A.C 89 [u,v] h N (fun x h' n'=>(uA G X n c=none/\x=.aV [.aa,.bool false])\/∃H y,uA G X n c=some H/\x=.aV [y,.bool true]/\gF h' n' y H):=by
 intro w;have lu:=hu.len;have Yt:ab h N ((h.set N (.cells [.int .i64 0] 3 true)).set N (.cells [.int .i64 n] 3 true)) (N+1):=(ab.refl.new _).set (aO _);have gB0:((h.set N (.cells [.int .i64 0] 3 true)).set N (.cells [.int .i64 n] 3 true)).get N=some (.cells [.int .i64 n] 3 true):=by rw[T.ae,ar rfl]
 rw[aN,A.k89 (by simp)];simp[A.b89,lu,hl,bO,ag];generalize (h.set N (.cells [.int .i64 0] 3 true)).set N (.cells [.int .i64 n] 3 true)=G0 at*;have kj:=hu.ad Yt;have nA:=hv.ad Yt;have lW:∀t,t<=n->((dp G X).take t).length=t:=fun t ht=>by rw[iX,yh];omega
 refine cm [(7,8),(14,30)] (fun e r st=>e=.exit 0/\ay N st.w=[]/\ab G0 (N+1) st.h st.n/\∃v,r.get 7=some v/\iw (N+1) st.h st.n v (dp G X)) (fun i r st=>ay N st.w=[]/\ab G0 (N+1) st.h st.n/\∃k v,k+i=n/\r.get 14=some (.int .i64 (k:Nat))/\r.get 7=some v/\iw (N+1) st.h st.n v ((dp G X).take k)) n ?_ ?_ ?_
 ·exact⟨by simp,ab.refl,0,_,by omega,by simp,by simp,iw.nil⟩
 ·rintro i r ⟨H,m,W⟩ hr hf ⟨hW,hK,k,y,hk,qd,h7,hO⟩;simp only at hW hK hO;rw[bu];have lm:=hK.le;cases i with
  |zero=>
   obtain rfl:k=n:=by omega
   rw[gp (by rw[yh];omega)]at hO;simp[A.wy,hr,hf,qd,h7,hW,hK];exact hO
  |succ i=>
   have aC:k<n:=by omega
   have cg:(k:Int)<(n:Int):=by omega
   obtain⟨ga,Yu⟩:=bj (l:=G) (k:=k) (by omega);obtain⟨xa,Yv⟩:=bj (l:=X) (k:=k) (by omega);have lga:=hG ga (cF Yu);have lxa:=hX xa (cF Yv);obtain⟨i1,o1,c1,e1,w1,a,q1,q2,q3,q4,q5⟩:=DO (kj.ad hK) Yu;have lv:=hv.len;rw[hx]at lv;simp[A.wy,hr,qd,h7,cg,lu,hl,q1,q2,q3,q4];refine av (Yim q5.1 (by omega) (by omega)) ?_;rintro z H2 n2 k2 hz;have me:=k2.le;obtain⟨i3,o3,c3,e3,w3,b,p1,p2,p3,p4,p5⟩:=DO ((nA.ad hK).ad k2) Yv;obtain⟨v1,h1,w1',j1,j2,j3,j4⟩:=Ib.many (w:=[]) hz p5.1 (by omega) (by omega) (by omega);simp[-V.cells, -V.one,hr,lv,p1,p2,p3,p4,Ie,j1,cg];have ft:=j4.Yn;obtain⟨f1,f2,f3⟩:=ft.1.form;have k3:ab H m h1 (n2+1):=k2.then j3;have kD:ab h1 (n2+1) (h1.set (n2+1) (.cells [v1] 81 true)) (n2+1+1):=ab.refl.new _;have AI:ag [V.aa] 0 [v1]=[v1]:=rfl;obtain⟨v',h',w',s1,s2,s3,s4⟩:=iw.push (N0:=N+1) (x:=.slice (n2+1) 0 1 (some 1) 1) (w:=[]) ((hO.ad k3).ad kD) (ft.ad kD) (by omega) (by simp[gb,St.row,aL]) (by rw[lW k (by omega)];omega);simp(disch:=first|(simp;done)|omega|rfl) [-V.cells, -V.one,hf,qd,f1,f2,AI,Ie,s1];refine⟨i,by omega,Ng fun j hj=>?_,((hK.trans k3).trans kD).then s3,k+1,by omega,by simp,?_⟩
   ·rcases jB.1 hj with hj|hj
    ·have:=FW (s2.trans rfl) j (Ig hj).1;omega
    rcases jB.1 hj with hj|hj
    ·have:=FW (j2.trans rfl) j (Ig hj).1;omega
    exact FW hW j hj
   rw[DQ,Yd1 (by omega),Yu,Yv];exact s4
 rintro _ r ⟨H,m,W⟩ hr ⟨rfl,hW,hK,y,h7,hO⟩;simp only at hW hK hO;have lm:=hK.le;have I:=mE (zi hG hX (by omega)) (n:=n+c);have ka:=(nR (zi hG hX (by omega)) (n:=n+c)).2;rw[yh,hl]at ka;simp[h7];refine av (Yw hO.DP (zi hG hX (by omega)) (by rw[yh];omega) (by rw[yh];omega) (by omega) uz hKq fun i hi _=>hB i (by rw[yh]at hi;omega)) ?_;rintro _ H2 n2 k2 ⟨rv,pv,rfl,zj,DK⟩;have me:=k2.le;have rU:=DK.sl;have jA:=rU.len;rw[iJ]at jA;have Nu:(AM (aF (dp G X) (n+c)).2.2).length=(aF (dp G X) (n+c)).2.1:=by simp[AM,I.len]
 rw[Nu]at jA;have gN:=(k2.get N (by omega)).trans ((hK.get N (by omega)).trans gB0);have Yx:N<n2:=by omega
 have kk:=(Yt.trans (hK.trans k2));by_cases c1:(aF (dp G X) (n+c)).2.1<n
 ·have c1':((aF (dp G X) (n+c)).2.1:Int)<(n:Int):=by omega
  have hs:uA G X n c=none:=by unfold uA;rw[ar (.inl c1)]
  simp[hr,jA,gN,Yx,c1',ax,hW,cQ.cU];exact⟨kk,hs⟩
 have hd:(aF (dp G X) (n+c)).2.1=n:=by omega
 rw[hd]at jA Nu;obtain⟨p,hp⟩:=bj (l:=(aF (dp G X) (n+c)).2.2) (k:=n-1) (by have:=I.len;omega);obtain⟨i3,o3,c3,e3,w3,p1,p2,p3,p4⟩:=rU.at (j:=n-1) (x:=.int .i64 p) (by simp[dI,AM,hp]);have yl:(n:Int)-1=((n-1:Nat):Int):=by omega
 have ib:((n-1:Nat):Int)<(n:Int):=by omega
 have Yy:n-1<n:=by omega
 have cnn:¬(n:Int)<(n:Int):=by omega
 by_cases c2:p=n-1
 ·subst c2;have hs:uA G X n c=some ((bb (dp G X) (n+c)).map (List.drop n)):=by unfold uA;rw[ak];rw[hd,hp];simp
  have rl:∀r∈bb (dp G X) (n+c),r.length=n+c:=CI (zi hG hX (by omega));simp(disch:=first|(simp;done)|omega|rfl) [hr,jA,gN,Yx,cnn,yl,p1,p2,p3,p4];refine av (Ygm (List.drop n) zj (by rw[p9 (zi hG hX (by omega)),hd];omega) fun l jj u' h' n' k' nU=>Yut ((k'.get N (by omega)).trans gN) (by have:=k'.le;omega) nU (by rw[rl l jj];omega) (by rw[rl l jj];omega)) ?_;rintro z H3 n3 k3 hz;simp[ax,hW];exact⟨kk.trans k3,_,hs,hz⟩
 have c2':¬(p:Int)=((n-1:Nat):Int):=by omega
 have hs:uA G X n c=none:=by unfold uA;rw[ar (.inr (by rw[hp];exact c2))]
 simp(disch:=first|(simp;done)|omega|rfl) [hr,jA,gN,Yx,cnn,yl,p1,p2,p3,p4,c2',ax,hW];exact⟨kk,hs⟩
end
end Go.Mx
