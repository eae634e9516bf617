/-Sums-/
import Derived.Test.YtfeehbdhikiikaaGreatDoorEcL
set_option linter.all false
set_option maxHeartbeats 4000000
namespace Go.Mx
variable{rw:Bool}{A' D H M a:List (List Rat)}{b l:List Rat}{K P bytes o:Nat}{g y:Nat->Rat}{x:Rat}{f v':V}
noncomputable section
open Go Go.Proofs
variable {d i j k:Nat} {m:List (List Rat)}
set_option maxRecDepth 1000000
def sN(f:Nat->Rat):Nat->Rat
 |0=>0
 |n+1=>sN f n+f n
def bf{f g:Nat->Rat}:∀{n:Nat},(∀i,i<n->f i=g i)->sN f n=sN g n
 |0,_=>rfl
 |n+1,h=>by
  unfold sN
  rw[bf fun i hi=>h i (by omega),h n (by omega)]
def vT{f g:Nat->Rat}:∀{n:Nat},sN (fun i=>f i+g i) n=sN f n+sN g n
 |0=>by simp[sN,Rat.add_zero]
 |n+1=>by
  unfold sN
  rw[vT]
  grind
def eE{f:Nat->Rat}{c:Rat}:∀{n:Nat},sN (fun i=>c*f i) n=c*sN f n
 |0=>by simp[sN,Rat.mul_zero]
 |n+1=>by
  unfold sN
  rw[eE]
  grind
def pD{f:Nat->Rat}:∀{n:Nat},(∀i,i<n->f i=0)->sN f n=0
 |0,_=>rfl
 |n+1,h=>by
  unfold sN
  rw[pD fun i hi=>h i (by omega),h n (by omega),Rat.add_zero]
def zG{f:Nat->Nat->Rat}{m:Nat}:∀{n:Nat},sN (fun i=>sN (f i) m) n=sN (fun j=>sN (fun i=>f i j) n) m
 |0=>(pD (n:=m) fun _ _=>rfl).symm
 |n+1=>by
  show sN (fun i=>sN (f i) m) n+sN (f n) m=sN (fun j=>sN (fun i=>f i j) n+f n j) m
  rw[zG,<-vT]
def CX{f:Nat->Rat}:∀{n:Nat},(∀i,i<n->0<=f i)->0<=sN f n
 |0,_=>Rat.le_refl
 |n+1,h=>Rat.add_nonneg (CX fun i hi=>h i (by omega)) (h n (by omega))
def It{f:Nat->Rat}:∀{n:Nat},(∀i,i<n->0<=f i)->sN f n=0->∀i,i<n->f i=0
 |0,_,_,i,hi=>by omega
 |n+1,h,e,i,hi=>by
  have h1:=CX (n:=n) fun i hi=>h i (by omega)
  have h2:=h n (by omega)
  have e':sN f n+f n=0:=e
  by_cases Db:i=n
  ·subst Db
   grind
  ·exact It (n:=n) (fun i hi=>h i (by omega)) (by grind) i (by omega)
def uC{f:Nat->Rat}{i:Nat}:∀{n:Nat},i<n->(∀j,j<n->j≠i->f j=0)->sN f n=f i
 |0,h,_=>by omega
 |n+1,h,hz=>by
  unfold sN
  by_cases e:i=n
  ·subst e
   rw[pD fun j hj=>hz j (by omega) (by omega),Rat.zero_add]
  ·rw[uC (n:=n) (by omega) fun j hj aX=>hz j (by omega) aX,hz n (by omega) (by omega),Rat.add_zero]
def Yib{a b:List Rat}:∀{n:Nat},lI a b n=sN (fun i=>a[i]?.getD 0*b[i]?.getD 0) n
 |0=>rfl
 |n+1=>by
  unfold lI sN
  rw[Yib]
def eL(m:List (List Rat))(c:Nat)(v:Nat->Rat):Prop:=∀i,i<m.length->sN (fun j=>al m i j*v j) c=0
def Ysp{c p:Nat}{v:Nat->Rat}(hd:d<m.length)(hp:p<m.length):eL (cX m d p) c v↔eL m c v:=by
 have hs:∀i,sN (fun j=>al (cX m d p) i j*v j) c=if i=d then sN (fun j=>al m p j*v j) c else if i=p then sN (fun j=>al m d j*v j) c else sN (fun j=>al m i j*v j) c:=fun i=>by
  split
  ·exact bf fun j _=>by rw[Ik hd hp,av (by assumption)]
  split
  ·exact bf fun j _=>by rw[Ik hd hp,ak (by assumption),av (by assumption)]
  exact bf fun j _=>by rw[Ik hd hp,ak (by assumption),ak (by assumption)]
 unfold eL;rw[rK];constructor
 ·intro h i hi;by_cases e:i=p
  ·have:=h d hd;rw[hs,av rfl]at this;rw[e];exact this
  by_cases e2:i=d
  ·have:=h p hp;rw[hs]at this;by_cases e3:p=d
   ·rw[av e3]at this;rw[e2,<-e3];exact this
   rw[ak e3,av rfl]at this;rw[e2];exact this
  have:=h i hi;rw[hs,ak e2,ak e]at this;exact this
 intro h i hi;rw[hs];split
 ·exact h p hp
 split
 ·exact h d hd
 exact h i hi
def Ysq{c:Nat}{v:Nat->Rat}(hd:d<m.length)(h0:al m d k≠0):eL (jk m d k) c v↔eL m c v:=by
 have hs:∀i,sN (fun j=>al (jk m d k) i j*v j) c=if i=d then (al m d k)⁻¹*sN (fun j=>al m d j*v j) c else sN (fun j=>al m i j*v j) c:=fun i=>by
  split
  ·rw[<-eE];exact bf fun j _=>by rw[SM hd,av (by assumption),Rat.div_def];grind
  exact bf fun j _=>by rw[SM hd,ak (by assumption)]
 unfold eL;rw[DW];constructor
 ·intro h i hi;have:=h i hi;rw[hs]at this;by_cases e:i=d
  ·rw[av e]at this;rw[e];rcases Rat.mul_eq_zero.1 this with h1|h1
   ·exact absurd h1 (fun hc=>h0 (by rw[<-Rat.inv_inv (al m d k),hc,Rat.inv_zero]))
   exact h1
  rw[ak e]at this;exact this
 intro h i hi;rw[hs];split
 ·rw[h d hd,Rat.mul_zero]
 exact h i hi
def Ysr{c:Nat}{v:Nat->Rat}(hc:aW m c)(hd:d<m.length):eL (dr m d k m.length) c v↔eL m c v:=by
 have hs:∀i,i<m.length->sN (fun j=>al (dr m d k m.length) i j*v j) c=if i=d then sN (fun j=>al m i j*v j) c else sN (fun j=>al m i j*v j) c+ -al m i k*sN (fun j=>al m d j*v j) c:=fun i hi=>by
  split
  ·exact bf fun j _=>by rw[SN hc hi hd,av (by assumption)]
  rw[<-eE,<-vT];exact bf fun j _=>by rw[SN hc hi hd,ak (by assumption)];grind
 unfold eL;rw[CQ];constructor
 ·intro h i hi;have qc:=h d hd;rw[hs d hd,av rfl]at qc;have:=h i hi;rw[hs i hi,qc,Rat.mul_zero,Rat.add_zero]at this;split at this<;>exact this
 intro h i hi;rw[hs i hi,h d hd,h i hi,Rat.mul_zero,Rat.add_zero];split<;>rfl
def Yma{s:List (List Rat)×Nat×List Nat}{c:Nat}{v:Nat->Rat}(hc:aW s.1 c):eL (kL s k).1 c v↔eL s.1 c v:=by
 obtain⟨m,d,ps⟩:=s;simp only at hc;have hle:=@Ij m k (m.length-d) d;unfold kL;simp only;split
 ·rename_i hp;have eY:d<m.length:=by unfold iQ at hp;omega
  have aX:al m (iQ m d k) k≠0:=@La m k (m.length-d) d (by unfold iQ at hp;omega);have kZ:=(hc.FT eY hp).Lb (d:=d) (k:=k) (by rw[rK];exact eY);have iC:(jk (cX m d (iQ m d k)) d k).length=m.length:=by rw[DW,rK]
  have h3:=Ysr (k:=k) (d:=d) (v:=v) kZ (by rw[iC];exact eY);rw[iC]at h3;show eL (dr (jk (cX m d (iQ m d k)) d k) d k m.length) c v↔_;rw[h3,Ysq (by rw[rK];exact eY) (by rw[Ik eY hp,av rfl];exact aX),Ysp eY hp]
 exact Iff.rfl
def Yhh{m:List (List Rat)}{c:Nat}{v:Nat->Rat}(hc:aW m c):∀{n:Nat},eL (aK m n).1 c v↔eL m c v
 |0=>Iff.rfl
 |n+1=>by
  rw[yA,Yma (qJ hc).1]
  exact Yhh hc
def yB{c:Nat}{v:Nat->Rat}(hc:aW m c):eL (bH m c) c v↔eL m c v:=by
 rw[<-Yhh hc (n:=c)];have I:=qI hc (n:=c);have hl:=vU (n:=c) hc;unfold eL;constructor
 ·intro h i hi;by_cases e:i<(aK m c).2.1
  ·rw[<-h i (by rw[hl];exact e)];exact bf fun j _=>by rw[FX e]
  exact pD fun j hj=>by rw[I.rest i j (by omega) hi hj,Rat.zero_mul]
 intro h i hi;rw[hl]at hi;rw[<-h i (by have:=I.le;omega)];exact bf fun j _=>by rw[FX hi]
def Ny{c:Nat}(hc:aW m c)(hi:i<(aK m c).2.1)(hj:j<(aK m c).2.1):al (bH m c) j ((aK m c).2.2[i]?.getD 0)=if j=i then 1 else 0:=by have I:=qI hc (n:=c);rw[FX hj];exact I.one i j hi (by have:=I.le;omega)
def ix(m:List (List Rat))(c k j:Nat):Rat:=if j=k then 1 else if j∈(aK m c).2.2 then -al (bH m c) ((aK m c).2.2.idxOf j) k else 0
def Ywv{c:Nat}(h:j<c):(Tp (bH m c) (aK m c).2.2 c k)[j]?.getD 0=ix m c k j:=by simp[Tp,ix,h]
def FU{c:Nat}(hc:aW m c)(h:j∈(aK m c).2.2):∃i,i<(aK m c).2.1/\(aK m c).2.2[i]?.getD 0=j/\(aK m c).2.2.idxOf j=i:=by
 have I:=qI hc (n:=c);obtain⟨i,hi⟩:=nP h;have hl:i<(aK m c).2.1:=by rw[<-I.len];exact(yL.1 hi).1
 have e:(aK m c).2.2[i]?.getD 0=j:=by rw[hi];rfl
 exact⟨i,hl,e,by rw[<-e];exact I.idx hl⟩
def LV{c:Nat}{v:Nat->Rat}(hc:aW m c)(hi:i<(aK m c).2.1):sN (fun j=>al (bH m c) i j*v j) c=v ((aK m c).2.2[i]?.getD 0)+sN (fun j=>if j∈(aK m c).2.2 then 0 else al (bH m c) i j*v j) c:=by
 have I:=qI hc (n:=c);have hp:=I.lt i hi;have e1:sN (fun j=>if j=(aK m c).2.2[i]?.getD 0 then v j else 0) c=v ((aK m c).2.2[i]?.getD 0):=by rw[uC (i:=(aK m c).2.2[i]?.getD 0) hp fun j _ aX=>by rw[ak aX],av rfl]
 rw[<-e1,<-vT];apply bf;intro j _;by_cases hj:j∈(aK m c).2.2
 ·obtain⟨a,ha,ea,_⟩:=FU hc hj;rw[av hj,Rat.add_zero,<-ea,Ny hc ha hi];by_cases e:i=a
  ·subst e;rw[av rfl,av rfl,Rat.one_mul]
  rw[ak e,Rat.zero_mul,ak];intro h;rcases Nat.lt_or_gt_of_ne e with h1|h1
  ·have:=I.zU _ _ h1 ha;omega
  have:=I.zU _ _ h1 hi;omega
 rw[ak hj,ak,Rat.zero_add];intro h;subst h;rw[cj (by rw[I.len];exact hi)]at hj;exact hj (List.getElem_mem _)
def FV{c:Nat}(hc:aW m c)(hk:k<c)(hf:k∉(aK m c).2.2):eL m c (ix m c k):=by
 rw[<-yB hc];intro i hi;rw[vU hc]at hi;have I:=qI hc (n:=c);have Ty:(aK m c).2.2[i]?.getD 0∈(aK m c).2.2:=by rw[cj (by rw[I.len];exact hi)];exact List.getElem_mem _
 rw[LV hc hi,uC (i:=k) hk]
 ·rw[ak hf];have aX:¬(aK m c).2.2[i]?.getD 0=k:=fun h=>by rw[h]at Ty;exact hf Ty
  unfold ix;rw[av rfl,ak aX,av Ty,I.idx hi];grind
 intro j _ aX;by_cases hj:j∈(aK m c).2.2
 ·rw[av hj]
 rw[ak hj];unfold ix;rw[ak aX,ak hj,Rat.mul_zero]
def Zya{G:List (List Rat)}{n:Nat}(hG:aW G n)(h:∀v,eL G n v->∀j,j<n->v j=0):(aK G n).2.1=n:=by
 have I:=qI hG (n:=n);have hf:=Oq (ps:=(aK G n).2.2) (n:=n) (fun i hi=>I.lt i (by rw[<-I.len];exact hi)) (fun i j h1 h2=>I.zU i j h1 (by rw[<-I.len];exact h2));rw[I.len]at hf;by_cases e:(aK G n).2.1=n
 ·exact e
 exfalso;obtain⟨k,hk⟩:=bs (l:=pF (aK G n).2.2 n) (k:=0) (by omega);have hm:=cP hk;simp only[pF,List.mem_filter,jz]at hm;have hkf:k∉(aK G n).2.2:=by simpa using hm.2
 have:=h _ (FV hG hm.1 hkf) k hm.1;simp[ix]at this
def Yar{G:List (List Rat)}{n:Nat}(hG:aW G n)(hl:G.length=n)(h:∀v,eL G n v->∀j,j<n->v j=0):∃H,So G n=some H:=by
 have f:=Zya hG h;have hX:aW (List.replicate n ([]:List Rat)) 0:=fun r hr=>by rw[(Jc.1 hr).2];rfl
 have hw:dN G (List.replicate n [])=G:=by
  unfold dN;apply List.ext_getElem (by simp);intro i h1 h2;have:(List.replicate n ([]:List Rat))[i]?.getD []=[]:=by rw[List.getElem?_replicate];split<;>rfl
  simp only[List.getElem_map,List.getElem_range,cj h2,iL,this,zO]
 have hW:=z_ hG (Yw1 (n:=n)) (by rw[Yow,hl];exact aN _);have lW:(dN G (zA n)).length=n:=by rw[A6,hl]
 have hE:=Zyh (C:=dm (List.replicate n ([]:List Rat)) 0) hW (Nat.le_add_right n n) (aN n);rw[<-Zy5 hG hl hX (by simp),hw]at hE;have f2:(aK (dN G (zA n)) n).2.1=n:=by rw[hE]at f;exact f
 have e1:=Om (f2.trans lW.symm) (n:=n);have J:=qI hW (n:=n);rw[f2]at J;unfold So;rw[e1,av ⟨f2,fun i hi=>V9 J hi⟩];exact⟨_,rfl⟩
variable {N z:Nat} {h:T O} {u v:V} {w:List Nat}
def A.b150:=A.q Tryz.f150
def A.k150:=@A.kk 150 8 [.tmp 2] A.b150 (by kernel_rfl) rfl
def KZ(N0:Nat)(h:T O)(N:Nat)(v:V)(l:List Rat):Prop:=∃cs:List (List V),Own 4 101 N0 h N v cs/\(cs=[]->v=.aa)/\cs.length=l.length/\∀(j:Nat) (q:Rat),l[j]?=some q->∃c,cs[j]?=some c/\fI h N c q
def Yfc{c:List V}{z o:Nat}:∀{l:List (List V)},(∀(j:Nat) (x:List V),l[j]?=some x->aO c (o+j*z) z=some x)->o+l.length*z<=c.length->aO c o (l.length*z)=some l.flatten
 |[],_,h=>by
  unfold aO
  rw[av (by simpa using h)]
  simp
 |x::t,h,hl=>by
  have h0:=h 0 x rfl
  rw[Nat.zero_mul,iX]at h0
  have ih:=Yfc (c:=c) (z:=z) (o:=o+z) (l:=t) (fun j y hy=>by
   have:=h (j+1) y hy
   rw[iR,Nat.one_mul]at this
   rw[show o+z+j*z=o+(j*z+z) by omega]
   exact this) (by rw[bl,iR,Nat.one_mul]at hl;omega)
  obtain⟨_,e1⟩:=NF h0
  obtain⟨_,e2⟩:=NF ih
  unfold aO
  rw[av hl,bl,iR,Nat.one_mul,Nat.add_comm (t.length*z) z,List.take_add,List.drop_drop,List.flatten_cons,e2,<-e1]
def Yn7{l:List (List V)}(s:Sn z h N u l):fO ⟨h,N,w⟩ z u=some (l.length,l.flatten):=by
 rcases s with⟨rfl,rfl|rfl⟩|⟨i,o,cp,c,e,sO,rfl,_,h3,h4,h5,_⟩
 ·rfl
 ·rfl
 have:=Yfc h4 h5;simp[fO,St.row,h3,this]
def Yk9{e:TypeId}{N0:Nat}{l xs:List (List V)}{Y:V->Prop}(s:Own z e N0 h N v l)(hn:l=[]->v=.aa)(hY:∀c∈l,∀y∈c,Y y)(hN:N0<=N)(hz:0<z)(hx:∀x∈xs,x.length=z)(h0:0<xs.length)(hu:fO ⟨h,N,w⟩ z u=some (xs.length,xs.flatten))(hb:2*(l.length+xs.length)*bytes<=281474976710656):
  ∃v' h' w',mR ⟨h,N,w⟩ z bytes e v u=some (v',⟨h',N+1,w'⟩)/\az N0 w'=az N0 w/\ab h N0 h' (N+1)/\ec (fun i=>i∈bI v) h N h' (N+1)/\mP e Y h v/\Own z e N0 h' (N+1) v' (l++xs):=by
 obtain⟨hl,s⟩:=s;have iO:∀y∈l++xs,y.length=z:=fun y hy=>by
  rcases iS.1 hy with hy|hy
  ·exact hl y hy
  exact hx y hy
 have uQ:z≠0:=by omega
 have Sp:xs.length≠0:=by omega
 rcases s with⟨rfl,rfl⟩|⟨i,rfl,h2,h3,h4⟩
 ·refine⟨.slice N 0 xs.length none z,h.set N (.cells xs.flatten e true),w,?_,rfl,⟨by omega,fun j hj=>by rw[T.ag,ak (by omega)]⟩,⟨vY _,fun j hj _=>by rw[T.ag,ak (by omega)]⟩,mP.nil,iO,.inr ⟨N,by simp,hN,by omega,by rw[T.ag];simp⟩⟩;have wm:2*xs.length*bytes<=281474976710656:=by simpa using hb
  simp only[mR,hu,Ae,St.alloc];simp[wm,uQ,Sp]
 have lG:=wQ hl;have hmul:(l.length+xs.length)*z=l.length*z+xs.length*z:=iR ..;have qz:0<xs.length*z:=Au h0 hz;refine⟨.slice N 0 (l.length+xs.length) none z,(h.set i .dead).set N (.cells (l.flatten++xs.flatten) e true),i::w,?_,by simp[az,xb.2 h2],⟨by omega,fun j hj=>by rw[T.ag,ak (by omega),T.ag,ak (by omega)]⟩,⟨vY _,fun j hj hd=>?_⟩,fun j hj=>?_,iO,.inr ⟨N,by simp,hN,by omega,by rw[T.ag];simp⟩⟩
 ·simp only[mR,hu,Ae,St.row,h4];rw[ak Sp,ak (by rintro(h|h|h)<;>omega)];simp only[if_true];rw[ak (by rw[lG];omega),av ⟨by rw[lG];omega,trivial,trivial⟩];rfl
 ·rw[T.ag,ak (by omega),T.ag,ak (fun hc=>hd (by simp[bI,hc]))]
 simp only[bI,og]at hj;subst hj;refine⟨_,h4,fun hc=>?_,fun y hy=>?_⟩
 ·rw[hc]at lG;have:l.length=0:=by
   rcases Nat.mul_eq_zero.1 lG.symm with h|h
   ·exact h
   omega
  have:=hn (tC this);cases this
 obtain⟨c,hc,Eo⟩:=List.mem_flatten.1 hy;exact hY c hc y Eo
def KZ.many{N0:Nat}{a:List Rat}(s:KZ N0 h N v a)(hu:iM h N u b)(h0:0<b.length)(hN:N0<=N)(hl:a.length+b.length<100000):
  ∃v' h' w',mR ⟨h,N,w⟩ 4 64 101 v u=some (v',⟨h',N+1,w'⟩)/\az N0 w'=az N0 w/\ab h N0 h' (N+1)/\KZ N0 h' (N+1) v' (a++b):=by
 obtain⟨cs,h1,h2,h3,h4⟩:=s;obtain⟨ds,d1,d2,d3⟩:=hu;have dl:∀x∈ds,x.length=4:=fun x hx=>by
  obtain⟨j,hj⟩:=nP hx;obtain⟨r,hr⟩:=bs (l:=b) (k:=j) (by have:=fv hj;omega);obtain⟨c',g1,g2⟩:=d3 j r hr;rw[hj]at g1;obtain rfl:x=c':=by simpa using g1
  exact g2.len.1
 obtain⟨v',h',w',f1,f2,f3,f4,fD,f5⟩:=Yk9 (Y:=NW) (bytes:=64) (w:=w) h1 h2 (fun c hc y hy=>by
  obtain⟨j,hj⟩:=nP hc
  obtain⟨r,hr⟩:=bs (l:=a) (k:=j) (by have:=fv hj;omega)
  obtain⟨c',g1,g2⟩:=h4 j r hr
  rw[hj]at g1
  obtain rfl:c=c':=by simpa using g1
  exact g2.IH y hy) hN (by decide) dl (by omega) (Yn7 d1) (by omega);refine⟨v',h',w',f1,f2,f3,cs++ds,f5,fun hc=>?_,by simp[h3,d2],fun j r hr=>?_⟩
 ·rw[List.append_eq_nil_iff]at hc;rw[hc.2]at d2;simp at d2;omega
 by_cases hj:j<a.length
 ·rw[k_ hj]at hr;obtain⟨c',g1,g2⟩:=h4 j r hr;exact⟨c',by rw[k_ (by omega)];exact g1,g2.bE f4 fD⟩
 rw[pC (by omega)]at hr;obtain⟨c',g1,g2⟩:=d3 _ r hr;exact⟨c',by rw[pC (by omega),h3];exact g1,g2.bE f4 fD⟩
def KZ.LP{N0:Nat}(s:KZ N0 h N v l):dR h N v l:=by obtain⟨cs,h1,h2,h3,h4⟩:=s;exact Tm h1 h3 fun j hj=>by obtain⟨q,hq⟩:=bs hj;obtain⟨c,g1,g2⟩:=h4 j q hq;exact⟨c,g1,fun r hr=>by rw[hq]at hr;cases hr;exact g2⟩
def Yi4(hs:iM h N v l)(h0:0<l.length)(hl:l.length<100000):Fn A.C 150 [v] h N (fun x h' n'=>KZ N h' n' x l):=by
 intro w;obtain⟨cs,h1,h2,h3⟩:=id hs;have iz:=h1;rcases iz with⟨hn,_⟩|⟨i,o,cp,c,e,rw,rfl,q2,q3,q4,q5,q6⟩
 ·rw[hn]at h2;simp at h2;omega
 have kN:ab h N (h.set N (.cells [] 101 true)) (N+1):=ab.refl.new _;have Eh:=fun w=>Yn7 (w:=w) (h1.ad kN);have aX:cs.length≠0:=by omega
 have ha:∀w,mR ⟨h.set N (.cells [] 101 true),N+1,w⟩ 4 64 101 (.slice N 0 0 (some 0) 4) (.slice i o cs.length cp 4)=some (.slice (N+1) 0 cs.length none 4,⟨(h.set N (.cells [] 101 true)).set (N+1) (.cells cs.flatten 101 true),N+1+1,w⟩):=fun w=>by
  have hg:(h.set N (.cells [] 101 true)).get N=some (.cells [] 101 true):=by simp
  simp only[mR,Eh,Ae,St.row,hg,aO,St.alloc];simp[aX];omega
 have cl:∀x∈cs,x.length=4:=fun x hx=>by
  obtain⟨j,hj⟩:=nP hx;obtain⟨r,hr⟩:=bs (l:=l) (k:=j) (by have:=fv hj;omega);obtain⟨c',g1,g2⟩:=h3 j r hr;rw[hj]at g1;obtain rfl:x=c':=by simpa using g1
  exact g2.len.1
 rw[aP,A.k150 (by simp)];simp[A.b150,bz,LR,ha,ay];have kB:ab h N ((h.set N (.cells [] 101 true)).set (N+1) (.cells cs.flatten 101 true)) (N+1+1):=(ab.refl.new _).new _;refine⟨kB,cs,⟨cl,.inr ⟨N+1,by simp,by omega,by omega,by rw[T.ag];simp⟩⟩,fun hc=>by rw[hc]at aX;simp at aX,h2,fun j q hq=>?_⟩;obtain⟨c',g1,g2⟩:=h3 j q hq;exact⟨c',g1,g2.ad kB⟩
variable {N j k n:Nat} {h:T O} {v:V}
def A.Sr:=A.q Tryz.f141
def A.lJ:=A.ql A.Sr 0 []
def A.b141:=(fun x0=>A.qb A.Sr [x0]) A.lJ
def A.k141:=@A.kk 141 22 [.tmp 4] A.b141 (by kernel_rfl) rfl
def Yl5{l:List V}{Q:Nat->T O->Nat->V->Prop}(Y:V->Prop)(hQ:∀j h n h' n' c u,Q j h n c->ec (fun i=>i∈bI u) h n h' n'->mP 90 Y h u->Q j h' n' c)(hs:Sl h N v l)(hl:l.length<1000000000)(hf:∀(j:Nat) (x:V),l[j]?=some x->∀h' n',ab h N h' n'->fW A.C f [x] h' n' (fun u h2 n2=>∃y,u=y/\[y].length=1/\[y].all V.one=true/\(∀q∈[y],Y q)/\Q j h2 n2 y)):Fn A.C 141 [v,f] h N (fun u h' n'=>∃out,Own 1 90 N h' n' u out/\out.length=l.length/\∀(j:Nat),j<l.length->∃y,out[j]?=some [y]/\Q j h' n' y):=by
 intro w;have hlen:=hs.len;rw[aP,A.k141 (by simp)];simp[A.b141,hlen];refine cB [(5,5),(7,7),(10,20)] (fun e r st=>e=.exit 0/\az N st.w=[]/\ab h N st.h st.n/\∃u out,r.get 5=some u/\Own 1 90 N st.h st.n u out/\out.length=l.length/\∀(j:Nat),j<l.length->∃y,out[j]?=some [y]/\Q j st.h st.n y) (fun m r st=>az N st.w=[]/\ab h N st.h st.n/\∃k u out,k+m=l.length/\r.get 10=some (.int .i64 k)/\r.get 5=some u/\Own 1 90 N st.h st.n u out/\out.length=k/\(out=[]->u=.aa)/\(∀c∈out,∀y∈c,Y y)/\∀(j:Nat),j<k->∃y,out[j]?=some [y]/\Q j st.h st.n y) l.length ?_ ?_ ?_
 ·exact⟨by simp,ab.refl,0,.aa,[],by omega,by simp,by simp,Own.nil,rfl,fun _=>rfl,by simp,fun j hj=>by omega⟩
 ·rintro m r ⟨H,n1,W⟩ hr eI ⟨hW,hK,k,u,out,hk,iN,h5,ho,gJ,s_,hY,dc⟩;simp only at hW hK ho dc;rw[bG];cases m with
  |zero=>
   have ta:k=l.length:=by omega
   subst ta;simp[A.lJ,hr,eI,iN,hW,hK];exact⟨u,h5,out,ho,gJ,dc⟩
  |succ m=>
   have aD:k<l.length:=by omega
   obtain⟨x,hx⟩:=bs aD;obtain⟨i,o,cc,e,rw,q1,q2,q3,q4⟩:=(hs.ad hK).at hx;have dj:(k:Int)<(l.length:Int):=by omega
   have kA:=hK;simp[A.lJ,hr,iN,h5,dj,hlen,q1,q3,q4];refine Bo (hf k x hx _ _ kA) ?_;rintro y h3 n3 k3 ⟨_,rfl,c1,c2,cY,c3⟩;have jE:=k3.le;have kn:=hK.le;have kB:=kA.trans k3;have b1:V.one y=true:=by simpa using c2
   have b2:V.cells y=[y]:=by cases y<;>first|rfl|cases b1
   simp[-V.cells, -V.one,b1,b2,ae];have uI:Own 1 90 N (h3.set n3 (.cells [y] 90 true)) (n3+1) u out:=(ho.ad ((ab.refl).trans k3)).ad (ab.refl.new _);obtain⟨v',h',w',f1,f2,f3,f4,fD,f5⟩:=D9 (Y:=Y) (x:=[y]) (u:=.slice n3 0 1 (some 1) 1) (bytes:=24) (w:=W) uI s_ hY (by omega) (by decide) c1 (by simp[fO,St.row,aO]) (by omega);rw[f1];have jC:¬n1<N:=by omega
   have f6:az N w'=[]:=by rw[f2];simp[hW]
   have kz:=(kB.new (.cells [y] 90 true)).then f3;have k4:ab h3 n3 (h3.set n3 (.cells [y] 90 true)) (n3+1):=ab.refl.new _;have yK:Q k (h3.set n3 (.cells [y] 90 true)) (n3+1) y:=hQ _ _ _ _ _ _ .aa c3 k4.upd mP.nil;simp(disch:=first|(simp;done)|omega|rfl) [eI,iN,f6];refine⟨m,by omega,kz,k+1,by omega,by simp,out++[[y]],f5,by simp[gJ],by simp,fun c' hc z hz=>?_,fun j hj=>?_⟩
   ·rcases iS.1 hc with hc|hc
    ·exact hY c' hc z hz
    simp only[og]at hc;subst hc;exact cY z hz
   by_cases qW:j<k
   ·obtain⟨y,g1,g2⟩:=dc j qW;exact⟨y,by rw[k_ (by omega)];exact g1,hQ _ _ _ _ _ _ _ (hQ _ _ _ _ _ _ .aa g2 (((ab.refl).trans k3).trans k4).upd mP.nil) f4 fD⟩
   obtain rfl:j=k:=by omega
   exact⟨y,by rw[pC (by omega),gJ];simp,hQ _ _ _ _ _ _ _ yK f4 fD⟩
 rintro _ r ⟨H,n1,W⟩ hr ⟨rfl,hW,hK,u,out,h5,ho,gJ,dc⟩;simp only at hW hK ho dc;simp[h5,ay,hW,hK];exact⟨out,ho,gJ,dc⟩
def A.b63:=A.q Tryz.f63
def A.k63:=@A.kk 63 15 [.tmp 4] A.b63 (by kernel_rfl) rfl
def A.b142:=A.q Tryz.f142
def A.k142:=@A.kk 142 7 [.tmp 3] A.b142 (by kernel_rfl) rfl
def A.b151:=A.q Tryz.f151
def A.k151:=@A.kk 151 7 [.tmp 3] A.b151 (by kernel_rfl) rfl
def Zz4{out:List (List V)}(h:∀x∈out,x.length=1):∃ys:List V,out=ys.map fun y=>[y]:=by
 induction out with
 |nil=>exact⟨[],rfl⟩
 |cons x t ih=>
  obtain⟨ys,rfl⟩:=ih fun x kO=>h x (pA _ kO);have:=h x oa;match x,this with
  |[y],_=>exact⟨y::ys,rfl⟩
def Yg6(F:List Rat->List Rat)(hs:fj h N v m)(hl:m.length<100000)(hf:∀l∈m,∀u h' n',ab h N h' n'->dR h' n' u l->fW A.C f [u] h' n' (fun x h2 n2=>dR h2 n2 x (F l))):Fn A.C 141 [v,f] h N (fun u h' n'=>fj h' n' u (m.map F)):=by
 obtain⟨us,h1,h2,h3⟩:=hs;have key:=Yl5 (f:=f) (Q:=fun j h n u=>∀l,(m.map F)[j]?=some l->dR h n u l) NW (fun j h n h' n' c u hq k hd l hl=>(hq l hl).bE k hd (by simp)) h1 (by omega) ?_
 ·intro w;refine(key w).mono fun y st=>?_;rintro⟨q1,q2,out,o1,o2,o3⟩;obtain⟨ys,rfl⟩:=Zz4 o1.1;refine⟨q1,q2,ys,Sn.one.1 o1.sn,by simpa[h2]using o2,fun j l hl=>?_⟩;obtain⟨y,g1,g2⟩:=o3 j (by have:=fv hl;simp at this;omega);refine⟨y,?_,g2 l hl⟩;rw[eH]at g1;cases hy:ys[j]? with
  |none=>rw[hy]at g1;simp at g1
  |some z=>rw[hy]at g1;simpa using g1
 intro j x hx h' n' hk;obtain⟨l,hl⟩:=bs (l:=m) (k:=j) (by have:=fv hx;omega);obtain⟨u,g1,g2⟩:=h3 j l hl;rw[hx]at g1;obtain rfl:x=u:=by simpa using g1
 refine fun w=>(hf l (cP hl) _ _ _ hk (g2.ad hk) w).mono fun y st=>?_;rintro⟨q1,q2,q3⟩;obtain⟨f1,f2,f3⟩:=q3.1.form;refine⟨q1,q2,y,rfl,rfl,by simp only[List.all_cons,List.all_nil,f1,Bool.and_true],by simpa using f3,fun l' iO=>?_⟩;rw[eH,hl]at iO;obtain rfl:F l=l':=by simpa using iO
 exact q3
def Ywa{a:V}{C:List (List Rat)}{e:TypeId}(hp:h.get P=some (.cells [a] e rw))(hP:P<N)(ha:fj h N a C)(hu:dR h N u l)(hC:∀r∈C,r.length=n/\∀q∈r,Qb j q)(hn:n<=l.length)(hb:∀q∈l,Qb k q)(hj:1<=j)(hk:1<=k)(hl:n*(j+k+1)+j+k+1<=400000000)(hCl:C.length<100000):fW A.C (.func 142 [] [.ptr P 0]) [u] h N (fun x h' n'=>dR h' n' x (C.map fun c=>ed c l)):=by intro w;rw[aP,A.k142 (by simp)];simp[A.b142,hp];refine au (YV ha hu.1 hC hn hb hj hk hl hCl) ?_;rintro x H2 n2 k2 hx;simp[ay];exact⟨k2,hx⟩
def Be{B:List (List Rat)}{c:Nat}(hB:bR B k)(hk:1<=k):∀r∈dm B c,r.length=B.length/\∀q∈r,Qb k q:=fun r hr=>by
 unfold dm at hr
 obtain⟨i,_,rfl⟩:=bO.1 hr
 refine⟨by simp[qL],fun q hq=>?_⟩
 unfold qL at hq
 obtain⟨l,hl,rfl⟩:=bO.1 hq
 exact rN (hB l hl) hk i
def kR{B:List (List Rat)}{c:Nat}:(dm B c).length=c:=by simp[dm]
def SX{A C:List (List Rat)}(hA:bR A k)(hC:∀r∈C,r.length=n/\∀q∈r,Qb j q)(hj:1<=j)(hk:1<=k):bR (fb A C) (n*(j+k+1)+1):=fun r hr q hq=>by
 unfold fb at hr
 obtain⟨a,ha,rfl⟩:=bO.1 hr
 obtain⟨c,hc,rfl⟩:=bO.1 hq
 obtain⟨h1,h2⟩:=hC c hc
 exact D6 h2 (hA a ha) hj hk (by omega)
def Li{A C:List (List Rat)}:aW (fb A C) C.length:=fun r hr=>by
 unfold fb at hr
 obtain⟨a,ha,rfl⟩:=bO.1 hr
 rw[dL]
def DZ{A C:List (List Rat)}:(fb A C).length=A.length:=by simp[fb]
def Zw9{c:Nat}{B:List (List Rat)}(hu:fj h N u A')(hv:fj h N v B)(hA:aW A' n)(hB:aW B c)(hn:B.length<=n)(nT:0<B.length)(hAl:A'.length<1000)(hBl:B.length<1000)(hc:c<1000)(qA:bR A' k)(qB:bR B j)(hj:1<=j)(hk:1<=k)(hl:B.length*(j+k+1)+j+k+1<=400000000):Fn A.C 63 [u,v] h N (fun x h' n'=>fj h' n' x (fb A' (dm B c))):=by
 intro w;obtain⟨l0,dk⟩:=bs nT;obtain⟨i2,o2,c2,e2,w2,y,q1,q2,q3,q4,q5⟩:=IT hv dk;rw[iX]at q4;have lv:=hv.len;have OP:(0:Int)<(B.length:Int):=by omega
 have ly:=q5.1.len;rw[hB l0 (cP dk)]at ly;rw[aP,A.k63 (by simp)];simp[A.b63,lv,nT,q1,q3,q4,ly];refine au (TH hv (by omega) hB hc) ?_;rintro x H2 n2 k2 hx;have hx:=hx.AA;obtain⟨us,f0,_⟩:=id hx;have f1:=f0.form.one;have f2:=f0.form.cells;have kC:ab H2 n2 ((H2.set n2 (.cells [.aa] 87 true)).set n2 (.cells [x] 87 true)) (n2+1):=(ab.refl.new _).set (aN _);have gC:((H2.set n2 (.cells [.aa] 87 true)).set n2 (.cells [x] 87 true)).get n2=some (.cells [x] 87 true):=by rw[T.ag,av rfl]
 have zM:ae [V.aa] 0 [x]=[x]:=rfl;simp[-V.cells, -V.one,f1,f2,zM,bM];generalize (H2.set n2 (.cells [.aa] 87 true)).set n2 (.cells [x] 87 true)=G at*;refine au (Yg6 (fun l=>(dm B c).map fun c=>ed c l) ((hu.ad k2).ad kC) (by omega) fun l iO u' h' n' k' nJ=>Ywa ((k'.get n2 (by omega)).trans gC) (by have:=k'.le;omega) ((hx.ad kC).ad k') nJ (Be qB hj) (by rw[hA l iO];exact hn) (qA l iO) hj hk hl (by rw[kR];omega)) ?_;rintro z H3 n3 k3 hz;simp[ay];exact⟨by have:=k2.le;omega,(k2.trans kC).trans k3,hz⟩
variable {i n:Nat} {m:List (List Rat)}
def Lk{C:List (List Rat)}(hi:i<a.length)(hj:j<C.length)(hC:aW C n):al (fb a C) i j=sN (fun l=>al C j l*al a i l) n:=by have hl:=hC.at hj;unfold al fb;rw[eH,cj hi];simp only[qH,iL,eH];rw[cj hj]at hl ⊢;simp only[qH,iL]at hl ⊢;unfold ed;rw[hl,Yib]
def Bf(hk:k<n)(hi:i<m.length):al (dm m n) k i=al m i k:=by unfold al dm qL;simp only[eH,zD hk,qH,iL,cj hi]
def F3{m:List (List Rat)}{n:Nat}:aW (dm m n) m.length:=fun r hr=>by
 unfold dm at hr
 obtain⟨k,_,rfl⟩:=bO.1 hr
 simp[qL]
def Ysg{b:List (List Rat)}(h:a.length=b.length)(ha:aW a n)(hb:aW b n)(he:∀i j,i<a.length->j<n->al a i j=al b i j):a=b:=by apply List.ext_getElem h;intro i h1 h2;have l1:=ha.at h1;have l2:=hb.at h2;rw[cj h1]at l1;rw[cj h2]at l2;simp only[iL]at l1 l2;apply TE (by rw[l1,l2]);intro j hj;have:=he i j h1 (by omega);unfold al at this;rw[cj h1,cj h2]at this;exact this
def Ye1(h:aW m n):dm (dm m n) m.length=m:=by have hl:(dm m n).length=n:=kR;apply Ysg (n:=n) kR (by have:=@F3 (dm m n) m.length;rw[hl]at this;exact this) h;intro i j hi hj;rw[kR]at hi;rw[Bf hi (by rw[hl];exact hj),Bf hj hi]
def YF{w:List Rat}(hi:i<m.length)(hk:k<w.length):al (m.map fun r=>iG r w) i k=al m i k*w[k]?.getD 0:=by unfold al;rw[eH,cj hi];simp only[qH,iL];unfold iG;rw[eH,zD hk];rfl
def D4:0<=x*x:=by
 rcases Rat.le_total (a:=0) (b:=x)with h|h
 ·exact Rat.mul_nonneg h h
 have:=Rat.mul_nonneg (a:= -x) (b:= -x) (by grind) (by grind);grind
def Ln(h:x*x=0):x=0:=by rcases Rat.mul_eq_zero.1 h with h|h<;>exact h
def Yxv{c:Nat}(hc:aW m c)(hz:∀l,l<c->sN (fun a=>al (bH m c) a l*y a) (aK m c).2.1=0):∀a,a<(aK m c).2.1->y a=0:=fun a ha=>by
 have I:=qI hc (n:=c)
 have h:=hz _ (I.lt a ha)
 rw[uC (i:=a) ha]at h
 ·rw[Ny hc ha ha,av rfl,Rat.one_mul]at h
  exact h
 ·intro j hj aX
  rw[Ny hc ha hj,ak aX,Rat.zero_mul]
def Ynf{c:Nat}(hc:aW m c)(hk:eL (bH m c) c fun l=>sN (fun a=>al (bH m c) a l*y a) (aK m c).2.1):∀a,a<(aK m c).2.1->y a=0:=by
 apply Yxv hc;have hl:=vU (n:=c) hc;have key:sN (fun l=>sN (fun a=>al (bH m c) a l*y a) (aK m c).2.1*sN (fun a=>al (bH m c) a l*y a) (aK m c).2.1) c=0:=by
  have e1:∀l,sN (fun a=>al (bH m c) a l*y a) (aK m c).2.1*sN (fun a=>al (bH m c) a l*y a) (aK m c).2.1=sN (fun b=>y b*(al (bH m c) b l*sN (fun a=>al (bH m c) a l*y a) (aK m c).2.1)) (aK m c).2.1:=fun l=>by rw[<-eE];exact bf fun b _=>by grind
  rw[bf fun l _=>e1 l,zG];apply pD;intro b hb;rw[eE,hk b (by rw[hl];exact hb),Rat.mul_zero]
 intro l AY;exact Ln (It (fun _ _=>D4) key l AY)
def Ypu{w:List Rat}{c:Nat}(hD:aW D c)(hw:w.length=D.length)(hp:∀q∈w,0<q)(hk:eL (fb ((dm (fb D (bH D c)) (aK D c).2.1).map fun r=>iG r w) (dm (fb D (bH D c)) (aK D c).2.1)) (aK D c).2.1 y):∀a,a<(aK D c).2.1->y a=0:=by
 have hl:=vU (n:=c) hD;have hr:=IS (n:=c) hD;obtain⟨R,hR⟩:∃R,R=(aK D c).2.1:=⟨_,rfl⟩;obtain⟨S,hS⟩:∃S,S=fb D (bH D c):=⟨_,rfl⟩;have lS:S.length=D.length:=by rw[hS,DZ]
 have T9:∀i a,i<D.length->a<R->al S i a=sN (fun l=>al (bH D c) a l*al D i l) c:=fun i a hi ha=>by rw[hS];exact Lk hi (by rw[hl,<-hR];exact ha) hr
 rw[<-hS,<-hR]at hk;obtain⟨T,hT⟩:∃T:Nat->Rat,T=fun i=>sN (fun a=>al S i a*y a) R:=⟨_,rfl⟩;have hTi:∀i,T i=sN (fun a=>al S i a*y a) R:=fun i=>by rw[hT]
 have h1:∀a,a<R->sN (fun i=>w[i]?.getD 0*(al S i a*T i)) D.length=0:=fun a ha=>by
  have h:=hk a (by rw[DZ,dL,kR];exact ha);refine Eq.trans ?_ h;have e:∀i,w[i]?.getD 0*(al S i a*T i)=sN (fun b=>w[i]?.getD 0*al S i a*(al S i b*y b)) R:=fun i=>by rw[eE,hTi];grind
  rw[bf fun i _=>e i,zG];apply bf;intro b hb;rw[Lk (by rw[dL,kR];exact ha) (by rw[kR];exact hb) F3,lS,Rat.mul_comm (sN _ _),<-eE];apply bf;intro i hi;rw[Bf hb (by rw[lS];exact hi),YF (by rw[kR];exact ha) (by rw[hw];exact hi),Bf ha (by rw[lS];exact hi)];grind
 have h2:sN (fun i=>w[i]?.getD 0*(T i*T i)) D.length=0:=by
  have e:∀i,w[i]?.getD 0*(T i*T i)=sN (fun a=>y a*(w[i]?.getD 0*(al S i a*T i))) R:=fun i=>by
   rw[show w[i]?.getD 0*(T i*T i)=w[i]?.getD 0*T i*T i by grind];conv=>lhs;arg 2;rw[hTi]
   rw[<-eE];exact bf fun a _=>by grind
  rw[bf fun i _=>e i,zG];apply pD;intro a ha;rw[eE,h1 a ha,Rat.mul_zero]
 have wp:∀i,i<D.length->0<w[i]?.getD 0:=fun i hi=>by rw[cj (by omega)];exact hp _ (List.getElem_mem _)
 have LA:∀i,i<D.length->T i=0:=fun i hi=>by
  have h3:=It (fun i hi=>Rat.mul_nonneg (Rat.le_of_lt (wp i hi)) D4) h2 i hi;rcases Rat.mul_eq_zero.1 h3 with h4|h4
  ·have:=wp i hi;rw[h4]at this;exact absurd this (by decide)
  exact Ln h4
 apply Ynf hD;rw[yB hD];intro i hi;rw[<-LA i hi,hTi,<-hR];have e:∀l,al D i l*sN (fun a=>al (bH D c) a l*y a) R=sN (fun a=>y a*(al (bH D c) a l*al D i l)) R:=fun l=>by rw[<-eE];exact bf fun a _=>by grind
 rw[bf fun l _=>e l,zG];apply bf;intro a ha;rw[eE,T9 i a hi ha];grind
variable {G X:List (List Rat)} {N n:Nat} {h:T O}
def A.w66:=A.q Tryz.f66
def A.yl:=A.ql A.w66 0 []
def A.b66:=(fun x0=>A.qb A.w66 [x0]) A.yl
def A.k66:=@A.kk 66 53 [.tmp 4,.tmp 5] A.b66 (by kernel_rfl) rfl
def Yb5{st aB:St}{cp:Option Nat}{s:Nat}{x y:Option V}(e:oF st z (some (.slice i o n cp s)) (some x) (some y) (some none)=some (v',aB)):∀j∈bI v',j=i:=by
 unfold oF rX at e;simp only[HH,Src.ev]at e;cases cp<;>simp only at e<;>repeat' split at e
 all_goals first
  |cases e;done
  |(simp only[ar,bB]at e;obtain⟨rfl,_⟩:=e;simp[bI])
def dR.drop{v:V}{l:List Rat}{w:List Nat}(hu:dR h N v l)(hn:n<=l.length)(h0:0<l.length):∃v',oF ⟨h,N,w⟩ 4 (some v) (some (some (.int .i64 n))) (some none) (some none)=some (v',⟨h,N,w⟩)/\dR h N v' (l.drop n):=by
 obtain⟨⟨cs,h1,h2,h3⟩,h4⟩:=hu;obtain⟨v',e1,e2⟩:=Zub (w:=w) (by decide) h1 (lo:=n) (hi:=cs.length) (by omega) (aN _) (some (.int .i64 n)) none (.inl rfl) (.inr ⟨rfl,rfl⟩);rw[gm (aN _)]at e2;refine⟨v',e1,⟨cs.drop n,e2,by simp[h2],fun j q hq=>?_⟩,fun i hi=>?_⟩
 ·rw[fU]at hq ⊢;exact h3 _ q hq
 rcases h1 with⟨hc,_⟩|⟨i',o,cp,c,e,sO,rfl,_⟩
 ·rw[hc]at h2;simp at h2;omega
 have:=Yb5 e1 i hi;exact h4 i (by simp[bI,this])
def Yvq{e:TypeId}(hp:h.get P=some (.cells [.int .i64 n] e rw))(hP:P<N)(hu:dR h N u l)(hn:n<=l.length)(h0:0<l.length):fW A.C (.func 151 [] [.ptr P 0]) [u] h N (fun x h' n'=>dR h' n' x (l.drop n)):=by intro w;obtain⟨v',e1,e2⟩:=dR.drop (w:=[]) hu hn h0;rw[aP,A.k151 (by simp)];simp[A.b151,hp,Ge,e1,ay];exact⟨ab.refl,e2⟩
def Yev(h:k<G.length):(dN G X)[k]?=some (G[k]?.getD []++X[k]?.getD []):=by simp[dN,h]
def Yeu(hG:bR G K)(hX:bR X K):bR (dN G X) K:=fun r hr q hq=>by
 obtain⟨i,hi,rfl⟩:=bO.1 hr
 rcases iS.1 hq with h|h
 ·exact hG.at q h
 ·exact hX.at q h
def Zua{c:Nat}{B:Nat->Nat}(hu:fj h N u G)(hv:fj h N v X)(hG:aW G n)(hX:aW X c)(hl:G.length=n)(hx:X.length=n)(h0:0<n)(hn:n<100)(iK:0<c)(hc:c<100)(IL:∀i,1<=B i)(hKq:∀k,bR (aK (dN G X) k).1 (B (aK (dN G X) k).2.1))(hB:∀i,i<n->3*B i<=400000000):Fn A.C 66 [u,v] h N (fun x h' n'=>(ry G X n c=none/\x=.aU [.aa,.bool false])\/∃H y,ry G X n c=some H/\x=.aU [y,.bool true]/\fj h' n' y H):=by
 intro w;have lu:=hu.len;have kB0:ab h N ((h.set N (.cells [.int .i64 0] 3 true)).set N (.cells [.int .i64 n] 3 true)) (N+1):=(ab.refl.new _).set (aN _);have gB0:((h.set N (.cells [.int .i64 0] 3 true)).set N (.cells [.int .i64 n] 3 true)).get N=some (.cells [.int .i64 n] 3 true):=by rw[T.ag,av rfl]
 rw[aP,A.k66 (by simp)];simp[A.b66,lu,hl,bM,ae];generalize (h.set N (.cells [.int .i64 0] 3 true)).set N (.cells [.int .i64 n] 3 true)=G0 at*;have nL:=hu.ad kB0;have nW:=hv.ad kB0;have lW:∀t,t<=n->((dN G X).take t).length=t:=fun t ht=>by rw[iV,A6];omega
 refine cB [(7,8),(14,30)] (fun e r st=>e=.exit 0/\az N st.w=[]/\ab G0 (N+1) st.h st.n/\∃v,r.get 7=some v/\iF (N+1) st.h st.n v (dN G X)) (fun i r st=>az N st.w=[]/\ab G0 (N+1) st.h st.n/\∃k v,k+i=n/\r.get 14=some (.int .i64 (k:Nat))/\r.get 7=some v/\iF (N+1) st.h st.n v ((dN G X).take k)) n ?_ ?_ ?_
 ·exact⟨by simp,ab.refl,0,_,by omega,by simp,by simp,iF.nil⟩
 ·rintro i r ⟨H,m,W⟩ hr hf ⟨hW,hK,k,y,hk,ri,h7,hO⟩;simp only at hW hK hO;rw[bG];have lm:=hK.le;cases i with
  |zero=>
   obtain rfl:k=n:=by omega
   rw[gm (by rw[A6];omega)]at hO;simp[A.yl,hr,hf,ri,h7,hW,hK];exact hO
  |succ i=>
   have aD:k<n:=by omega
   have bV:(k:Int)<(n:Int):=by omega
   obtain⟨ga,hga⟩:=bs (l:=G) (k:=k) (by omega);obtain⟨xa,hxa⟩:=bs (l:=X) (k:=k) (by omega);have lga:=hG ga (cP hga);have lxa:=hX xa (cP hxa);obtain⟨i1,o1,c1,e1,w1,a,q1,q2,q3,q4,q5⟩:=IT (nL.ad hK) hga;have lv:=hv.len;rw[hx]at lv;simp[A.yl,hr,ri,h7,bV,lu,hl,q1,q2,q3,q4];refine au (Yi4 q5.1 (by omega) (by omega)) ?_;rintro z H2 n2 k2 hz;have lf:=k2.le;obtain⟨i3,o3,c3,e3,w3,b,p1,p2,p3,p4,p5⟩:=IT ((nW.ad hK).ad k2) hxa;obtain⟨v1,h1,w1',j1,j2,j3,j4⟩:=KZ.many (w:=[]) hz p5.1 (by omega) (by omega) (by omega);simp[-V.cells, -V.one,hr,lv,p1,p2,p3,p4,LR,j1,bV];have ft:=j4.LP;obtain⟨f1,f2,f3⟩:=ft.1.form;have k3:ab H m h1 (n2+1):=k2.then j3;have kD:ab h1 (n2+1) (h1.set (n2+1) (.cells [v1] 90 true)) (n2+1+1):=ab.refl.new _;have zM:ae [V.aa] 0 [v1]=[v1]:=rfl;obtain⟨v',h',w',s1,s2,s3,s4⟩:=iF.push (N0:=N+1) (x:=.slice (n2+1) 0 1 (some 1) 1) (w:=[]) ((hO.ad k3).ad kD) (ft.ad kD) (by omega) (by simp[fO,St.row,aO]) (by rw[lW k (by omega)];omega);simp(disch:=first|(simp;done)|omega|rfl) [-V.cells, -V.one,hf,ri,f1,f2,zM,LR,s1];refine⟨i,by omega,Iq fun j hj=>?_,((hK.trans k3).trans kD).then s3,k+1,by omega,by simp,?_⟩
   ·rcases iS.1 hj with hj|hj
    ·have:=FZ (s2.trans rfl) j (Ir hj).1;omega
    rcases iS.1 hj with hj|hj
    ·have:=FZ (j2.trans rfl) j (Ir hj).1;omega
    exact FZ hW j hj
   rw[Bi,Yev (by omega),hga,hxa];exact s4
 rintro _ r ⟨H,m,W⟩ hr ⟨rfl,hW,hK,y,h7,hO⟩;simp only at hW hK hO;have lm:=hK.le;have I:=qI (z_ hG hX (by omega)) (n:=n+c);have kM:=(qJ (z_ hG hX (by omega)) (n:=n+c)).2;rw[A6,hl]at kM;simp[h7];refine au (Zry hO.AA (z_ hG hX (by omega)) (by rw[A6];omega) (by rw[A6];omega) (by omega) IL hKq fun i hi _=>hB i (by rw[A6]at hi;omega)) ?_;rintro _ H2 n2 k2 ⟨rv,pv,rfl,Ao,IN⟩;have lf:=k2.le;have th:=IN.sl;have jA:=th.len;rw[jo]at jA;have Ss:(Bv (aK (dN G X) (n+c)).2.2).length=(aK (dN G X) (n+c)).2.1:=by simp[Bv,I.len]
 rw[Ss]at jA;have gN:=(k2.get N (by omega)).trans ((hK.get N (by omega)).trans gB0);have hNn:N<n2:=by omega
 have kk:=(kB0.trans (hK.trans k2));by_cases c1:(aK (dN G X) (n+c)).2.1<n
 ·have c1':((aK (dN G X) (n+c)).2.1:Int)<(n:Int):=by omega
  have hs:ry G X n c=none:=by unfold ry;rw[av (.inl c1)]
  simp[hr,jA,gN,hNn,c1',ay,hW,c9.c_];exact⟨kk,hs⟩
 have hd:(aK (dN G X) (n+c)).2.1=n:=by omega
 rw[hd]at jA Ss;obtain⟨p,hp⟩:=bs (l:=(aK (dN G X) (n+c)).2.2) (k:=n-1) (by have:=I.len;omega);obtain⟨i3,o3,c3,e3,w3,p1,p2,p3,p4⟩:=th.at (j:=n-1) (x:=.int .i64 p) (by simp[dI,Bv,hp]);have zi:(n:Int)-1=((n-1:Nat):Int):=by omega
 have gE:((n-1:Nat):Int)<(n:Int):=by omega
 have hn3:n-1<n:=by omega
 have cnn:¬(n:Int)<(n:Int):=by omega
 by_cases c2:p=n-1
 ·subst c2;have hs:ry G X n c=some ((bH (dN G X) (n+c)).map (List.drop n)):=by unfold ry;rw[ak];rw[hd,hp];simp
  have rl:∀r∈bH (dN G X) (n+c),r.length=n+c:=IS (z_ hG hX (by omega));simp(disch:=first|(simp;done)|omega|rfl) [hr,jA,gN,hNn,cnn,zi,p1,p2,p3,p4];refine au (Yg6 (List.drop n) Ao (by rw[vU (z_ hG hX (by omega)),hd];omega) fun l iO u' h' n' k' nJ=>Yvq ((k'.get N (by omega)).trans gN) (by have:=k'.le;omega) nJ (by rw[rl l iO];omega) (by rw[rl l iO];omega)) ?_;rintro z H3 n3 k3 hz;simp[ay,hW];exact⟨kk.trans k3,_,hs,hz⟩
 have c2':¬(p:Int)=((n-1:Nat):Int):=by omega
 have hs:ry G X n c=none:=by unfold ry;rw[av (.inr (by rw[hp];exact c2))]
 simp(disch:=first|(simp;done)|omega|rfl) [hr,jA,gN,hNn,cnn,zi,p1,p2,p3,p4,c2',ay,hW];exact⟨kk,hs⟩
variable {i j n:Nat} {m:List (List Rat)}
def LW{f:Nat->Rat}{n:Nat}:∀{c:Nat},sN f (n+c)=sN f n+sN (fun j=>f (n+j)) c
 |0=>by rw[iX];show sN f n=sN f n+0;rw[Rat.add_zero]
 |c+1=>by
  rw[<-pE]
  show sN f (n+c)+f (n+c)=sN f n+(sN (fun j=>f (n+j)) c+f (n+c))
  rw[LW,Rat.add_assoc]
def Yjc(hG:aW G n)(hi:i<G.length):al (dN G X) i j=if j<n then al G i j else al X i (j-n):=by
 have hl:=hG.at hi;unfold al;rw[Yev hi,iL];by_cases hj:j<n
 ·rw[av hj,k_ (by omega)]
 rw[ak hj,pC (by omega),hl]
def Yuo(hi:i<m.length):al (m.map (List.drop n)) i j=al m i (n+j):=by unfold al;rw[eH,cj hi];simp only[qH,iL,fU]
def YH{c:Nat}(hG:aW G n)(hl:G.length=n)(hX:aW X c)(hx:X.length=n)(h0:0<n)(hs:ry G X n c=some H):H.length=n/\aW H c/\∀i j,i<n->j<c->sN (fun l=>al G i l*al H l j) n=al X i j:=by
 have hW:=z_ hG hX (by omega);have I:=qI hW (n:=n+c);have hle:=(qJ hW (n:=n+c)).2;rw[A6,hl]at hle;unfold ry at hs;split at hs
 ·cases hs
 rename_i hn;have hd:(aK (dN G X) (n+c)).2.1=n:=by omega
 have Su:(aK (dN G X) (n+c)).2.2[n-1]?.getD 0=n-1:=by omega
 have hr:=vU (n:=n+c) hW;rw[hd]at hr;obtain rfl:=px hs;have I2:zE (aK (dN G X) (n+c)).1 n (aK (dN G X) (n+c)).2.2 n:=by
  rw[hd]at I;refine⟨I.len,I.le,fun i hi=>?_,I.zU,I.one,I.lead,fun i k h1 h2 h3=>I.rest i k h1 h2 (by omega)⟩;by_cases e:i=n-1
  ·rw[e,Su];omega
  have:=I.zU i (n-1) (by omega) (by omega);omega
 have hp:∀i,i<n->(aK (dN G X) (n+c)).2.2[i]?.getD 0=i:=fun i hi=>V9 I2 hi;have vi:∀l,l∈(aK (dN G X) (n+c)).2.2↔l<n:=fun l=>by
  constructor
  ·intro hm;obtain⟨i,hi⟩:=nP hm;have uV:i<n:=by rw[<-I2.len];exact(yL.1 hi).1
   have:=hp i uV;rw[hi]at this;simp at this;omega
  intro aD;have:=hp l aD;rw[cj (by rw[I2.len];exact aD)]at this;simp only[iL]at this;rw[<-this];exact List.getElem_mem _
 refine⟨by rw[dL,hr],fun r Fh=>?_,fun i j hi hj=>?_⟩
 ·obtain⟨a,ha,rfl⟩:=bO.1 Fh;rw[zX,IS (n:=n+c) hW a ha];omega
 obtain⟨V,hV⟩:∃V:Nat->Rat,∀l,V l=if l<n then al ((bH (dN G X) (n+c)).map (List.drop n)) l j else if l=n+j then -1 else 0:=⟨_,fun _=>rfl⟩
 have hk:eL (dN G X) (n+c) V:=by
  rw[<-yB hW];intro a ha;rw[hr]at ha;rw[LV hW (by rw[hd];exact ha),hp a ha,hV,av ha,Yuo (by rw[hr];exact ha),uC (i:=n+j) (by omega)]
  ·rw[ak (fun h=>by have:=(vi _).1 h;omega),hV,ak (by omega),av rfl];grind
  intro l _ aX;by_cases e:l<n
  ·rw[av ((vi l).2 e)]
  rw[ak (fun h=>e ((vi l).1 h)),hV,ak e,ak aX,Rat.mul_zero]
 have h:=hk i (by rw[A6];omega);rw[LW,uC (i:=j) (n:=c) hj]at h
 ·rw[Yjc hG (by omega),ak (by omega),hV,ak (by omega),av rfl,Nat.add_sub_cancel_left]at h;rw[bf (g:=fun l=>al G i l*al ((bH (dN G X) (n+c)).map (List.drop n)) l j) fun l iO=>by rw[Yjc hG (by omega),av iO,hV,av iO]]at h;grind
 intro l _ aX;rw[hV,ak (by omega),ak (by omega),Rat.mul_zero]
def Nz{c:Nat}(h:(pF (aK m c).2.2 c)[i]?=some k)(hj:j<c):al (mO m c) i j=ix m c k j:=by unfold al mO;rw[eH,h];simp only[qH,iL];exact Ywv hj
def Zs6{c:Nat}(hc:aW m c)(hi:i<(zV m c).length):eL m c fun l=>al (zV m c) i l:=by
 intro b hb;have h1:eL (mO m c) c fun l=>al m b l:=by
  intro a ha;obtain⟨k,hk⟩:=bs (l:=pF (aK m c).2.2 c) (k:=a) (by simpa[mO]using ha);have hm:=cP hk;simp only[pF,List.mem_filter,jz]at hm;have hf:k∉(aK m c).2.2:=by simpa using hm.2
  rw[<-FV hc hm.1 hf b hb];exact bf fun l hl=>by rw[Nz hk hl,Rat.mul_comm]
 rw[<-yB TA]at h1;have:=h1 i hi;rw[<-this];exact bf fun l _=>by rw[Rat.mul_comm];rfl
def Yf9{c:Nat}{e:Nat->Rat}(hc:aW m c)(h1:eL (bH m c) c e)(h2:eL (zV m c) c e):∀j,j<c->e j=0:=by
 have I:=qI hc (n:=c);have hl:=vU (n:=c) hc;have mX:eL (mO m c) c e:=(yB TA).1 h2;have hk:∀k,k<c->k∉(aK m c).2.2->sN (fun j=>ix m c k j*e j) c=0:=fun k hk hf=>by obtain⟨i,hi⟩:=nP (show k∈pF (aK m c).2.2 c by simp[pF,hk,hf]);have:=mX i (by simpa[mO]using fv hi);rw[<-this];exact bf fun l hl=>by rw[Nz hi hl]
 have he:∀j,j<c->e j=sN (fun k=>if k∈(aK m c).2.2 then 0 else e k*ix m c k j) c:=fun j hj=>by
  by_cases hm:j∈(aK m c).2.2
  ·obtain⟨i,hi,ei,ex⟩:=FU hc hm;have h:=h1 i (by rw[hl];exact hi);rw[LV hc hi,ei]at h;have e2:sN (fun k=>if k∈(aK m c).2.2 then 0 else e k*ix m c k j) c= -1*sN (fun k=>if k∈(aK m c).2.2 then 0 else al (bH m c) i k*e k) c:=by
    rw[<-eE];apply bf;intro k _;by_cases wA:k∈(aK m c).2.2
    ·rw[av wA,av wA,Rat.mul_zero]
    rw[ak wA,ak wA];have qW:¬j=k:=fun h=>by rw[h]at hm;exact wA hm
    unfold ix;rw[ak qW,av hm,ex];grind
   rw[e2];grind
  rw[uC (i:=j) hj]
  ·rw[ak hm];unfold ix;rw[av rfl,Rat.mul_one]
  intro k _ aX;by_cases wA:k∈(aK m c).2.2
  ·rw[av wA]
  rw[ak wA];unfold ix;rw[ak (Ne.symm aX),ak hm,Rat.mul_zero]
 have key:sN (fun j=>e j*e j) c=0:=by
  have e1:∀j,j<c->e j*e j=sN (fun k=>e j*(if k∈(aK m c).2.2 then 0 else e k*ix m c k j)) c:=fun j hj=>by rw[eE,<-he j hj]
  rw[bf e1,zG];apply pD;intro k hkc;by_cases wA:k∈(aK m c).2.2
  ·exact pD fun j _=>by rw[av wA,Rat.mul_zero]
  rw[bf (g:=fun j=>e k*(ix m c k j*e j)) fun j _=>by rw[ak wA];grind,eE,hk k hkc wA,Rat.mul_zero]
 intro j hj;exact Ln (It (fun _ _=>D4) key j hj)
variable {n:Nat}
def FW{f:Nat->Rat}:sN (fun i=>f i-g i) n=sN f n-sN g n:=by
 have:sN (fun i=>f i-g i) n=sN (fun i=>f i+ -1*g i) n:=bf fun i _=>by grind
 rw[this,vT,eE];grind
def Zzh{a b:Nat->Rat}{c:Nat}(h:∀t,t<n->sN (fun l=>al M t l*a l) c=b t):sN (fun l=>a l*sN (fun t=>al M t l*y t) n) c=sN (fun t=>b t*y t) n:=by rw[bf (g:=fun l=>sN (fun t=>y t*(al M t l*a l)) n) fun l _=>by rw[<-eE];exact bf fun t _=>by grind,zG];apply bf;intro t ht;rw[eE,h t ht];grind
def El{a:List Rat}(h:a.length=n):ed a b=sN (fun l=>a[l]?.getD 0*b[l]?.getD 0) n:=by unfold ed;rw[h,Yib]
def SZ{x:List Rat}{c b:Nat}(h:aW m c)(hb:b<m.length):(m.map fun r=>ed r x)[b]?.getD 0=sN (fun l=>al m b l*x[l]?.getD 0) c:=by have hl:=h.at hb;rw[eH,cj hb];simp only[qH,iL];rw[cj hb]at hl;simp only[iL]at hl;rw[El hl];apply bf;intro l _;unfold al;rw[cj hb];rfl
def Yjw{c:Nat}:((List.range c).map fun _=>(0:Rat))[j]?.getD 0=0:=by rw[eH];cases (List.range c)[j]?<;>rfl
end
end Go.Mx
