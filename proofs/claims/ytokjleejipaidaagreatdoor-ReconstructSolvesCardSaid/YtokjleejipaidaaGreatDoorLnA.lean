/-Finite sums-/
import Derived.Test.YtokjleejipaidaaGreatDoorSpC
set_option linter.all false
namespace Go.Mx
noncomputable section
open Go Go.Proofs
variable {d i k:Nat} {m:List (List Rat)}
set_option maxRecDepth 1000000
def sN(f:Nat->Rat):Nat->Rat
 |0=>0
 |n+1=>sN f n+f n
def fx{f g:Nat->Rat}:∀{n:Nat},(∀i,i<n->f i=g i)->sN f n=sN g n
 |0,_=>rfl
 |n+1,h=>by
  unfold sN
  rw[fx fun i hi=>h i (by omega),h n (by omega)]
def Ev{f g:Nat->Rat}:∀{n:Nat},sN (fun i=>f i+g i) n=sN f n+sN g n
 |0=>by simp[sN,Rat.add_zero]
 |n+1=>by
  unfold sN
  rw[Ev]
  grind
def oC{f:Nat->Rat}{c:Rat}:∀{n:Nat},sN (fun i=>c*f i) n=c*sN f n
 |0=>by simp[sN,Rat.mul_zero]
 |n+1=>by
  unfold sN
  rw[oC]
  grind
def GI{f:Nat->Rat}:∀{n:Nat},(∀i,i<n->f i=0)->sN f n=0
 |0,_=>rfl
 |n+1,h=>by
  unfold sN
  rw[GI fun i hi=>h i (by omega),h n (by omega),Rat.add_zero]
def GJ{f:Nat->Nat->Rat}{m:Nat}:∀{n:Nat},sN (fun i=>sN (f i) m) n=sN (fun j=>sN (fun i=>f i j) n) m
 |0=>(GI (n:=m) fun _ _=>rfl).symm
 |n+1=>by
  show sN (fun i=>sN (f i) m) n+sN (f n) m=sN (fun j=>sN (fun i=>f i j) n+f n j) m
  rw[GJ,<-Ev]
def Ysk{f:Nat->Rat}:∀{n:Nat},(∀i,i<n->0<=f i)->0<=sN f n
 |0,_=>Rat.le_refl
 |n+1,h=>Rat.add_nonneg (Ysk fun i hi=>h i (by omega)) (h n (by omega))
def Wc{f:Nat->Rat}:∀{n:Nat},(∀i,i<n->0<=f i)->sN f n=0->∀i,i<n->f i=0
 |0,_,_,i,hi=>by omega
 |n+1,h,e,i,hi=>by
  have h1:=Ysk (n:=n) fun i hi=>h i (by omega)
  have h2:=h n (by omega)
  have e':sN f n+f n=0:=e
  by_cases BJ:i=n
  ·subst BJ
   grind
  ·exact Wc (n:=n) (fun i hi=>h i (by omega)) (by grind) i (by omega)
def Al{f:Nat->Rat}{i:Nat}:∀{n:Nat},i<n->(∀j,j<n->j≠i->f j=0)->sN f n=f i
 |0,h,_=>by omega
 |n+1,h,hz=>by
  unfold sN
  by_cases e:i=n
  ·subst e
   rw[GI fun j hj=>hz j (by omega) (by omega),Rat.zero_add]
  ·rw[Al (n:=n) (by omega) fun j hj aW=>hz j (by omega) aW,hz n (by omega) (by omega),Rat.add_zero]
def Ymq{a b:List Rat}:∀{n:Nat},jD a b n=sN (fun i=>a[i]?.getD 0*b[i]?.getD 0) n
 |0=>rfl
 |n+1=>by
  unfold jD sN
  rw[Ymq]
def oD(m:List (List Rat))(c:Nat)(v:Nat->Rat):Prop:=∀i,i<m.length->sN (fun j=>aD m i j*v j) c=0
def Ypv{c p:Nat}{v:Nat->Rat}(hd:d<m.length)(hp:p<m.length):oD (cf m d p) c v↔oD m c v:=by
 have hs:∀i,sN (fun j=>aD (cf m d p) i j*v j) c=if i=d then sN (fun j=>aD m p j*v j) c else if i=p then sN (fun j=>aD m d j*v j) c else sN (fun j=>aD m i j*v j) c:=fun i=>by
  split
  ·exact fx fun j _=>by rw[GG hd hp,ax (by assumption)]
  ·split
   ·exact fx fun j _=>by rw[GG hd hp,ak (by assumption),ax (by assumption)]
   ·exact fx fun j _=>by rw[GG hd hp,ak (by assumption),ak (by assumption)]
 unfold oD
 rw[pz]
 constructor
 ·intro h i hi
  by_cases e:i=p
  ·have:=h d hd
   rw[hs,ax rfl]at this
   rw[e]
   exact this
  ·by_cases e2:i=d
   ·have:=h p hp
    rw[hs]at this
    by_cases e3:p=d
    ·rw[ax e3]at this
     rw[e2,<-e3]
     exact this
    ·rw[ak e3,ax rfl]at this
     rw[e2]
     exact this
   ·have:=h i hi
    rw[hs,ak e2,ak e]at this
    exact this
 ·intro h i hi
  rw[hs]
  split
  ·exact h p hp
  ·split
   ·exact h d hd
   ·exact h i hi
def Ypw{c:Nat}{v:Nat->Rat}(hd:d<m.length)(h0:aD m d k≠0):oD (fJ m d k) c v↔oD m c v:=by
 have hs:∀i,sN (fun j=>aD (fJ m d k) i j*v j) c=if i=d then (aD m d k)⁻¹*sN (fun j=>aD m d j*v j) c else sN (fun j=>aD m i j*v j) c:=fun i=>by
  split
  ·rw[<-oC]
   exact fx fun j _=>by
    rw[Qz hd,ax (by assumption),Rat.div_def]
    grind
  ·exact fx fun j _=>by rw[Qz hd,ak (by assumption)]
 unfold oD
 rw[BE]
 constructor
 ·intro h i hi
  have:=h i hi
  rw[hs]at this
  by_cases e:i=d
  ·rw[ax e]at this
   rw[e]
   rcases Rat.mul_eq_zero.1 this with h1|h1
   ·exact absurd h1 (fun hc=>h0 (by rw[<-Rat.inv_inv (aD m d k),hc,Rat.inv_zero]))
   ·exact h1
  ·rw[ak e]at this
   exact this
 ·intro h i hi
  rw[hs]
  split
  ·rw[h d hd,Rat.mul_zero]
  ·exact h i hi
def Ypx{c:Nat}{v:Nat->Rat}(hc:bp m c)(hd:d<m.length):oD (cg m d k m.length) c v↔oD m c v:=by
 have hs:∀i,i<m.length->sN (fun j=>aD (cg m d k m.length) i j*v j) c=if i=d then sN (fun j=>aD m i j*v j) c else sN (fun j=>aD m i j*v j) c+ -aD m i k*sN (fun j=>aD m d j*v j) c:=fun i hi=>by
  split
  ·exact fx fun j _=>by rw[QA hc hi hd,ax (by assumption)]
  ·rw[<-oC,<-Ev]
   exact fx fun j _=>by
    rw[QA hc hi hd,ak (by assumption)]
    grind
 unfold oD
 rw[zm]
 constructor
 ·intro h i hi
  have oF:=h d hd
  rw[hs d hd,ax rfl]at oF
  have:=h i hi
  rw[hs i hi,oF,Rat.mul_zero,Rat.add_zero]at this
  split at this<;>exact this
 ·intro h i hi
  rw[hs i hi,h d hd,h i hi,Rat.mul_zero,Rat.add_zero]
  split<;>rfl
def Yj0{s:List (List Rat)×Nat×List Nat}{c:Nat}{v:Nat->Rat}(hc:bp s.1 c):oD (iV s k).1 c v↔oD s.1 c v:=by
 obtain⟨m,d,ps⟩:=s
 simp only at hc
 have hle:=@El m k (m.length-d) d
 unfold iV
 simp only
 split
 ·rename_i hp
  have du:d<m.length:=by unfold eS at hp;omega
  have aW:aD m (eS m d k) k≠0:=@Gq m k (m.length-d) d (by unfold eS at hp;omega)
  have jC:=(hc.BD du hp).Gu (d:=d) (k:=k) (by rw[pz];exact du)
  have gj:(fJ (cf m d (eS m d k)) d k).length=m.length:=by rw[BE,pz]
  have h3:=Ypx (k:=k) (d:=d) (v:=v) jC (by rw[gj];exact du)
  rw[gj]at h3
  show oD (cg (fJ (cf m d (eS m d k)) d k) d k m.length) c v↔_
  rw[h3,Ypw (by rw[pz];exact du) (by rw[GG du hp,ax rfl];exact aW),Ypv du hp]
 ·exact Iff.rfl
def Yfc{m:List (List Rat)}{c:Nat}{v:Nat->Rat}(hc:bp m c):∀{n:Nat},oD (aK m n).1 c v↔oD m c v
 |0=>Iff.rfl
 |n+1=>by
  rw[uM,Yj0 (lF hc).1]
  exact Yfc hc
def Wd{c:Nat}{v:Nat->Rat}(hc:bp m c):oD (bY m c) c v↔oD m c v:=by
 rw[<-Yfc hc (n:=c)]
 have I:=ry hc (n:=c)
 have hl:=xz (n:=c) hc
 unfold oD
 constructor
 ·intro h i hi
  by_cases e:i<(aK m c).2.1
  ·rw[<-h i (by rw[hl];exact e)]
   exact fx fun j _=>by rw[Wb e]
  ·exact GI fun j hj=>by rw[I.rest i j (by omega) hi hj,Rat.zero_mul]
 ·intro h i hi
  rw[hl]at hi
  rw[<-h i (by have:=I.le;omega)]
  exact fx fun j _=>by rw[Wb hi]
def We{c j:Nat}(hc:bp m c)(hi:i<(aK m c).2.1)(hj:j<(aK m c).2.1):aD (bY m c) j ((aK m c).2.2[i]?.getD 0)=if j=i then 1 else 0:=by
 have I:=ry hc (n:=c)
 rw[Wb hj]
 exact I.one i j hi (by have:=I.le;omega)
def QE(m:List (List Rat))(c k j:Nat):Rat:=if j=k then 1 else if j∈(aK m c).2.2 then -aD (bY m c) ((aK m c).2.2.idxOf j) k else 0
def Yop{c j:Nat}(hc:bp m c)(h:j∈(aK m c).2.2):∃i,i<(aK m c).2.1/\(aK m c).2.2[i]?.getD 0=j/\(aK m c).2.2.idxOf j=i:=by
 have I:=ry hc (n:=c)
 obtain⟨i,hi⟩:=uR h
 have hl:i<(aK m c).2.1:=by rw[<-I.len];exact(xB.1 hi).1
 have e:(aK m c).2.2[i]?.getD 0=j:=by rw[hi];rfl
 exact⟨i,hl,e,by rw[<-e];exact I.idx hl⟩
def Ydg{c:Nat}{v:Nat->Rat}(hc:bp m c)(hi:i<(aK m c).2.1):sN (fun j=>aD (bY m c) i j*v j) c=v ((aK m c).2.2[i]?.getD 0)+sN (fun j=>if j∈(aK m c).2.2 then 0 else aD (bY m c) i j*v j) c:=by
 have I:=ry hc (n:=c)
 have hp:=I.lt i hi
 have e1:sN (fun j=>if j=(aK m c).2.2[i]?.getD 0 then v j else 0) c=v ((aK m c).2.2[i]?.getD 0):=by
  rw[Al (i:=(aK m c).2.2[i]?.getD 0) hp fun j _ aW=>by rw[ak aW],ax rfl]
 rw[<-e1,<-Ev]
 apply fx
 intro j _
 by_cases hj:j∈(aK m c).2.2
 ·obtain⟨a,ha,ea,_⟩:=Yop hc hj
  rw[ax hj,Rat.add_zero,<-ea,We hc ha hi]
  by_cases e:i=a
  ·subst e
   rw[ax rfl,ax rfl,Rat.one_mul]
  ·rw[ak e,Rat.zero_mul,ak]
   intro h
   rcases Nat.lt_or_gt_of_ne e with h1|h1
   ·have:=I.Ak _ _ h1 ha;omega
   ·have:=I.Ak _ _ h1 hi;omega
 ·rw[ak hj,ak,Rat.zero_add]
  intro h
  subst h
  rw[cF (by rw[I.len];exact hi)]at hj
  exact hj (List.getElem_mem _)
def Yta{c:Nat}(hc:bp m c)(hk:k<c)(hf:k∉(aK m c).2.2):oD m c (QE m c k):=by
 rw[<-Wd hc]
 intro i hi
 rw[xz hc]at hi
 have I:=ry hc (n:=c)
 have BC:(aK m c).2.2[i]?.getD 0∈(aK m c).2.2:=by
  rw[cF (by rw[I.len];exact hi)]
  exact List.getElem_mem _
 rw[Ydg hc hi,Al (i:=k) hk]
 ·rw[ak hf]
  have aW:¬(aK m c).2.2[i]?.getD 0=k:=fun h=>by rw[h]at BC;exact hf BC
  unfold QE
  rw[ax rfl,ak aW,ax BC,I.idx hi]
  grind
 ·intro j _ aW
  by_cases hj:j∈(aK m c).2.2
  ·rw[ax hj]
  ·rw[ak hj]
   unfold QE
   rw[ak aW,ak hj,Rat.mul_zero]
def Zwu{G:List (List Rat)}{n:Nat}(hG:bp G n)(h:∀v,oD G n v->∀j,j<n->v j=0):(aK G n).2.1=n:=by
 have I:=ry hG (n:=n)
 have hf:=Wa (ps:=(aK G n).2.2) (n:=n) (fun i hi=>I.lt i (by rw[<-I.len];exact hi)) (fun i j h1 h2=>I.Ak i j h1 (by rw[<-I.len];exact h2))
 rw[I.len]at hf
 by_cases e:(aK G n).2.1=n
 ·exact e
 ·exfalso
  obtain⟨k,hk⟩:=a_ (l:=CI (aK G n).2.2 n) (k:=0) (by omega)
  have hm:=bM hk
  simp only[CI,List.mem_filter,yA]at hm
  have hkf:k∉(aK G n).2.2:=by simpa using hm.2
  have:=h _ (Yta hG hm.1 hkf) k hm.1
  simp[QE]at this
def Yj4{G:List (List Rat)}{n:Nat}(hG:bp G n)(hl:G.length=n)(h:∀v,oD G n v->∀j,j<n->v j=0):∃H,uT G n=some H:=by
 have f:=Zwu hG h
 have hX:bp (List.replicate n ([]:List Rat)) 0:=fun r hr=>by rw[(GK.1 hr).2];rfl
 have hw:cj G (List.replicate n [])=G:=by
  unfold cj
  apply List.ext_getElem (by simp)
  intro i h1 h2
  have:(List.replicate n ([]:List Rat))[i]?.getD []=[]:=by
   rw[List.getElem?_replicate]
   split<;>rfl
  simp only[List.getElem_map,List.getElem_range,cF h2,jz,this,yK]
 have hW:=uU hG (Jz (n:=n)) (by rw[JA,hl];exact aO _)
 have lW:(cj G (fE n)).length=n:=by rw[tv,hl]
 have hE:=Wf (C:=dq (List.replicate n ([]:List Rat)) 0) hW (Nat.le_add_right n n) (aO n)
 rw[<-Zxg hG hl hX (by simp),hw]at hE
 have f2:(aK (cj G (fE n)) n).2.1=n:=by rw[hE]at f;exact f
 have e1:=Lj (f2.trans lW.symm) (n:=n)
 have J:=ry hW (n:=n)
 rw[f2]at J
 unfold uT
 rw[e1,ax ⟨f2,fun i hi=>QF J hi⟩]
 exact⟨_,rfl⟩
variable {i n:Nat} {m:List (List Rat)}
def Ymz{a C:List (List Rat)}{j:Nat}(hi:i<a.length)(hj:j<C.length)(hC:bp C n):aD (gk a C) i j=sN (fun l=>aD C j l*aD a i l) n:=by
 have hl:=hC.at hj
 unfold aD gk
 rw[fm,cF hi]
 simp only[ti,jz,fm]
 rw[cF hj]at hl ⊢
 simp only[ti,jz]at hl ⊢
 unfold lK
 rw[hl,Ymq]
def QG{k:Nat}(hk:k<n)(hi:i<m.length):aD (dq m n) k i=aD m i k:=by
 unfold aD dq iZ
 simp only[fm,CK hk,ti,jz,cF hi]
def GL{m:List (List Rat)}{n:Nat}:bp (dq m n) m.length:=fun r hr=>by
 unfold dq at hr
 obtain⟨k,_,rfl⟩:=eC.1 hr
 simp[iZ]
def Ypl{a b:List (List Rat)}(h:a.length=b.length)(ha:bp a n)(hb:bp b n)(he:∀i j,i<a.length->j<n->aD a i j=aD b i j):a=b:=by
 apply List.ext_getElem h
 intro i h1 h2
 have l1:=ha.at h1
 have l2:=hb.at h2
 rw[cF h1]at l1
 rw[cF h2]at l2
 simp only[jz]at l1 l2
 apply QH (by rw[l1,l2])
 intro j hj
 have:=he i j h1 (by omega)
 unfold aD at this
 rw[cF h1,cF h2]at this
 exact this
def Wg(h:bp m n):dq (dq m n) m.length=m:=by
 have hl:(dq m n).length=n:=lO
 apply Ypl (n:=n) lO (by have:=@GL (dq m n) m.length;rw[hl]at this;exact this) h
 intro i j hi hj
 rw[lO]at hi
 rw[QG hi (by rw[hl];exact hj),QG hj hi]
def Ywa{w:List Rat}{k:Nat}(hi:i<m.length)(hk:k<w.length):aD (m.map fun r=>vH r w) i k=aD m i k*w[k]?.getD 0:=by
 unfold aD
 rw[fm,cF hi]
 simp only[ti,jz]
 unfold vH
 rw[fm,CK hk]
 rfl
def Ysf{x:Rat}:0<=x*x:=by
 rcases Rat.le_total (a:=0) (b:=x)with h|h
 ·exact Rat.mul_nonneg h h
 ·have:=Rat.mul_nonneg (a:= -x) (b:= -x) (by grind) (by grind)
  grind
def Ywg{x:Rat}(h:x*x=0):x=0:=by
 rcases Rat.mul_eq_zero.1 h with h|h<;>exact h
def Yt3{c:Nat}{y:Nat->Rat}(hc:bp m c)(hz:∀l,l<c->sN (fun a=>aD (bY m c) a l*y a) (aK m c).2.1=0):∀a,a<(aK m c).2.1->y a=0:=fun a ha=>by
 have I:=ry hc (n:=c)
 have h:=hz _ (I.lt a ha)
 rw[Al (i:=a) ha]at h
 ·rw[We hc ha ha,ax rfl,Rat.one_mul]at h
  exact h
 ·intro j hj aW
  rw[We hc ha hj,ak aW,Rat.zero_mul]
def Yk5{c:Nat}{y:Nat->Rat}(hc:bp m c)(hk:oD (bY m c) c fun l=>sN (fun a=>aD (bY m c) a l*y a) (aK m c).2.1):∀a,a<(aK m c).2.1->y a=0:=by
 apply Yt3 hc
 have hl:=xz (n:=c) hc
 have key:sN (fun l=>sN (fun a=>aD (bY m c) a l*y a) (aK m c).2.1*sN (fun a=>aD (bY m c) a l*y a) (aK m c).2.1) c=0:=by
  have e1:∀l,sN (fun a=>aD (bY m c) a l*y a) (aK m c).2.1*sN (fun a=>aD (bY m c) a l*y a) (aK m c).2.1=sN (fun b=>y b*(aD (bY m c) b l*sN (fun a=>aD (bY m c) a l*y a) (aK m c).2.1)) (aK m c).2.1:=fun l=>by
   rw[<-oC]
   exact fx fun b _=>by grind
  rw[fx fun l _=>e1 l,GJ]
  apply GI
  intro b hb
  rw[oC,hk b (by rw[hl];exact hb),Rat.mul_zero]
 intro l zv
 exact Ywg (Wc (fun _ _=>Ysf) key l zv)
def Yna{D:List (List Rat)}{w:List Rat}{c:Nat}{y:Nat->Rat}(hD:bp D c)(hw:w.length=D.length)(hp:∀q∈w,0<q)(hk:oD (gk ((dq (gk D (bY D c)) (aK D c).2.1).map fun r=>vH r w) (dq (gk D (bY D c)) (aK D c).2.1)) (aK D c).2.1 y):∀a,a<(aK D c).2.1->y a=0:=by
 have hl:=xz (n:=c) hD
 have hr:=CJ (n:=c) hD
 obtain⟨R,hR⟩:∃R,R=(aK D c).2.1:=⟨_,rfl⟩
 obtain⟨S,hS⟩:∃S,S=gk D (bY D c):=⟨_,rfl⟩
 have lS:S.length=D.length:=by rw[hS,Ew]
 have QI:∀i a,i<D.length->a<R->aD S i a=sN (fun l=>aD (bY D c) a l*aD D i l) c:=fun i a hi ha=>by
  rw[hS]
  exact Ymz hi (by rw[hl,<-hR];exact ha) hr
 rw[<-hS,<-hR]at hk
 obtain⟨T,hT⟩:∃T:Nat->Rat,T=fun i=>sN (fun a=>aD S i a*y a) R:=⟨_,rfl⟩
 have Wh:∀i,T i=sN (fun a=>aD S i a*y a) R:=fun i=>by rw[hT]
 have h1:∀a,a<R->sN (fun i=>w[i]?.getD 0*(aD S i a*T i)) D.length=0:=fun a ha=>by
  have h:=hk a (by rw[Ew,gY,lO];exact ha)
  refine Eq.trans ?_ h
  have e:∀i,w[i]?.getD 0*(aD S i a*T i)=sN (fun b=>w[i]?.getD 0*aD S i a*(aD S i b*y b)) R:=fun i=>by
   rw[oC,Wh]
   grind
  rw[fx fun i _=>e i,GJ]
  apply fx
  intro b hb
  rw[Ymz (by rw[gY,lO];exact ha) (by rw[lO];exact hb) GL,lS,Rat.mul_comm (sN _ _),<-oC]
  apply fx
  intro i hi
  rw[QG hb (by rw[lS];exact hi),Ywa (by rw[lO];exact ha) (by rw[hw];exact hi),QG ha (by rw[lS];exact hi)]
  grind
 have h2:sN (fun i=>w[i]?.getD 0*(T i*T i)) D.length=0:=by
  have e:∀i,w[i]?.getD 0*(T i*T i)=sN (fun a=>y a*(w[i]?.getD 0*(aD S i a*T i))) R:=fun i=>by
   rw[show w[i]?.getD 0*(T i*T i)=w[i]?.getD 0*T i*T i by grind]
   conv=>lhs;arg 2;rw[Wh]
   rw[<-oC]
   exact fx fun a _=>by grind
  rw[fx fun i _=>e i,GJ]
  apply GI
  intro a ha
  rw[oC,h1 a ha,Rat.mul_zero]
 have wp:∀i,i<D.length->0<w[i]?.getD 0:=fun i hi=>by
  rw[cF (by omega)]
  exact hp _ (List.getElem_mem _)
 have hT0:∀i,i<D.length->T i=0:=fun i hi=>by
  have h3:=Wc (fun i hi=>Rat.mul_nonneg (Rat.le_of_lt (wp i hi)) Ysf) h2 i hi
  rcases Rat.mul_eq_zero.1 h3 with h4|h4
  ·have:=wp i hi
   rw[h4]at this
   exact absurd this (by decide)
  ·exact Ywg h4
 apply Yk5 hD
 rw[Wd hD]
 intro i hi
 rw[<-hT0 i hi,Wh,<-hR]
 have e:∀l,aD D i l*sN (fun a=>aD (bY D c) a l*y a) R=sN (fun a=>y a*(aD (bY D c) a l*aD D i l)) R:=fun l=>by
  rw[<-oC]
  exact fx fun a _=>by grind
 rw[fx fun l _=>e l,GJ]
 apply fx
 intro a ha
 rw[oC,QI i a hi ha]
 grind
set_option maxHeartbeats 2000000
def Yq0{h:T O}{N B P Cb c j0 k0:Nat}{r:T V}{u wv:V}{m:List (List Rat)}{rz:List Rat}{e e2:TypeId}{w:List Nat}{Jl:Bool}(hu:fK h N u m)(Wj:h.get B=some (.cells [.aa] 69 true))(Wk:B<N)(hP:h.get P=some (.cells [wv] e2 Jl))(Wl:P<N)(hPB:¬P=B)(hC:h.get Cb=some (.cells [u] e true))(hCN:Cb<N)(hCB:¬Cb=B)(gg:0<m.length)(mj:m.length<1000)(hc:bp m c)(gl:0<c)(cO:c<1000)(hw:dT h N wv rz)(Ey:rz.length=m.length)(qa:bZ m j0)(qb:∀q∈rz,Qb k0 q)(qk:1<=j0)(hj:j0<=400000000)(kg:k0<=400000000)(h5:r.get 5=some (.ptr B 0))(h3:r.get 3=some (.ptr P 0))(hww:ar B w=[]):
  Call A.C (.func 173 [] [.ptr Cb 0]) [.yield (N+1)] ⟨(h.set N (.defs true)).set (N+1) (.loop (wR r N)),N+1+1,w⟩ (fun _ st=>ar B st.w=[]/\N+2<=st.n/\(∀i,i<N->¬i=B->st.h.get i=h.get i)/\st.h.get N=some (.defs true)/\∃R v,st.h.get (N+1)=some (.loop R)/\R.st=.ready/\R.eW=none/\st.h.get B=some (.cells [v] 69 true)/\gh (N+2) st.h st.n v (zw m rz c)):=by
 have gD:((h.set N (.defs true)).set (N+1) (.loop (wR r N))).get N=some (.defs true):=by rw[T.ag,ak (by omega),T.ag,ax rfl]
 have gL:((h.set N (.defs true)).set (N+1) (.loop (wR r N))).get (N+1)=some (.loop (wR r N)):=by rw[T.ag,ax rfl]
 have kG:ab h N ((h.set N (.defs true)).set (N+1) (.loop (wR r N))) (N+2):=(ab.refl.new _).new _
 generalize (h.set N (.defs true)).set (N+1) (.loop (wR r N))=G at*
 have gC:=(kG.get Cb hCN).trans hC
 have gB:=(kG.get B Wk).trans Wj
 have yL:=hu.ad kG
 obtain⟨us,a1,a2,a3⟩:=yL
 obtain⟨l0,eG⟩:=a_ gg
 obtain⟨x0,b1,b2⟩:=a3 0 l0 eG
 obtain⟨i2,o2,cc2,e3,rw3,p1,p2,p3,p4⟩:=a1.at b1
 rw[iX]at p4
 have b3:=b2.1.len
 rw[hc l0 (bM eG)]at b3
 have lu:=a1.len
 rw[a2]at lu
 have yE:(0:Int)<(m.length:Int):=by omega
 have lC:Cb<N+1+1:=by omega
 have lp2:i2<N+1+1:=by omega
 rw[aM,A.k173 (by simp)]
 simp[A.b173,gC,lC,lp2,lu,gg,yE,p1,p3,p4,b3]
 refine bA [(3,3),(8,18)] (fun e r' st=>e=.exit 0/\ar B st.w=[]/\dS (DU N B) G (N+2) st.h st.n/\st.h.get (N+1)=some (.loop (wR r N))/\∃v,st.h.get B=some (.cells [v] 69 true)/\gh (N+2) st.h st.n v (zw m rz c)) (fun i r' st=>ar B st.w=[]/\dS (DU N B) G (N+2) st.h st.n/\st.h.get (N+1)=some (.loop (wR r N))/\∃k v,k<=c/\i=c-k/\r'.get 8=some (.int .i64 k)/\st.h.get B=some (.cells [v] 69 true)/\gh (N+2) st.h st.n v (zw m rz k)) c ?_ ?_ ?_
 ·exact⟨by simp,dS.refl,gL,0,_,by omega,by omega,by simp,gB,gh.nil⟩
 ·rintro i r' ⟨H1,n1,W⟩ hr hf ⟨hW,U1,JB,k,v,hk,rfl,h8,Am,hO⟩
  simp only at hW U1 JB Am hO
  rw[bb]
  by_cases au:k<c
  ·have aS:(k:Int)<(c:Int):=by omega
   have xG:=U1.le
   have Wm:=(U1.get Cb (by omega) (by unfold DU;omega)).trans gC
   have gP1:=(U1.get P (by omega) (by unfold DU;omega)).trans ((kG.get P Wl).trans hP)
   have lC1:Cb<n1:=by omega
   have UB:dS (fun i=>i=B) h N H1 n1:=⟨by omega,fun i hi hd=>(U1.get i (by omega) (by unfold DU;omega)).trans (kG.get i hi)⟩
   have fy:=hu.vz (v:=u) UB Wj (by decide) gg fun l hl=>by rw[hc l hl];exact gl
   have Ez:=hw.vz UB Wj (by decide)
   simp[A.rA,hr,hf,h8,au,aS,Wm,lC1]
   refine ay (Zy0 fy (by omega) hc au) ?_
   rintro x H2 n2 k2 hx
   have jA:=k2.le
   have lcl:(iZ m k).length=m.length:=by simp[iZ]
   simp[hr,hf]
   refine An (Ym9 ((k2.get (N+1) (by omega)).trans JB) ((k2.get B (by omega)).trans Am) ((k2.get P (by omega)).trans gP1) (hO.ad k2) (by omega) Wk Wl hx (Ez.ad k2) (by omega) (by rw[lcl,Ey]) (by omega) (fun q hq=>(zy qa qk _ (by unfold dq;exact List.mem_map_of_mem (yA.2 au))).2 q hq) qb hj kg h5 h3 hW) ?_
   rintro _ ⟨H3,n3,W3⟩ ⟨rfl,BK,U3,LG,v',Ao,EA⟩
   simp only at BK U3 LG Ao EA
   simp(disch:=first|(simp;done)|omega|rfl) [hr,hf,h8,BK,LG,Ao]
   exact⟨c-(k+1),by omega,(U1.trans k2.upd).trans U3,k+1,by omega,rfl,by simp,EA⟩
  ·obtain rfl:k=c:=by omega
   simp[A.rA,hr,hf,h8,hW,U1,JB,Am]
   exact hO
 ·rintro _ r' ⟨H1,n1,W⟩ hr ⟨rfl,hW,U1,JB,v,Am,hO⟩
  simp only at hW U1 JB Am hO
  simp[hr]
  refine⟨uK fun i hi=>?_,U1.le,fun i hi hd=>(U1.get i (by omega) (by unfold DU;omega)).trans (kG.get i hi),(U1.get N (by omega) (by unfold DU;omega)).trans gD,wR r N,JB,rfl,rfl,v,Am,hO⟩
  rcases lI.1 hi with hi|hi
  ·exact zi hW i (zz hi).1
  ·exact zi hww i hi
def Zu8{h:T O}{N c j0 k0:Nat}{u v:V}{m:List (List Rat)}{rz:List Rat}(hu:fK h N u m)(hv:dT h N v rz)(gg:0<m.length)(mj:m.length<1000)(hc:bp m c)(gl:0<c)(cO:c<1000)(Ey:rz.length=m.length)(qa:bZ m j0)(qb:∀q∈rz,Qb k0 q)(qk:1<=j0)(hj:j0<=400000000)(kg:k0<=400000000):Fn A.C 78 [u,v] h N (fun x h' n'=>fK h' n' x ((dq m c).map fun r=>vH r rz)):=by
 intro w
 obtain⟨f1,f2,f3⟩:=hv.1.form
 rw[aM,A.k78 (by simp)]
 simp[-V.cells, -V.one,A.b78,f1,f2]
 have kP:ab h N (h.set N (.cells [v] 72 true)) (N+1):=ab.refl.new _
 have gP:(h.set N (.cells [v] 72 true)).get N=some (.cells [v] 72 true):=by rw[T.ag,ax rfl]
 have kB:ab (h.set N (.cells [v] 72 true)) (N+1) ((h.set N (.cells [v] 72 true)).set (N+1) (.cells [.aa] 69 true)) (N+1+1):=ab.refl.new _
 have gB:((h.set N (.cells [v] 72 true)).set (N+1) (.cells [.aa] 69 true)).get (N+1)=some (.cells [.aa] 69 true):=by rw[T.ag,ax rfl]
 have Qv:=(kB.get N (by omega)).trans gP
 have kk:=kP.trans kB
 generalize (h.set N (.cells [v] 72 true)).set (N+1) (.cells [.aa] 69 true)=G at*
 have ov:V.one u=true/\V.cells u=[u]:=by
  obtain⟨us,s,_⟩:=hu
  exact⟨Sl.qW s,Sl.fM s⟩
 refine ay (Yk6 ov.1 ov.2) ?_
 rintro _ H3 n3 k3 ⟨e,rfl,c1,c2⟩
 have BA:=k3.le
 have Ao:=(k3.get (N+1) (by omega)).trans gB
 have gP3:=(k3.get N (by omega)).trans Qv
 simp[]
 refine Zzy (gv:=.func 173 [] [.ptr (N+1+1) 0]) (by simp) rfl (Yq0 (B:=N+1) (P:=N) (c:=c) ((hu.ad kk).ad k3) Ao (by omega) gP3 (by omega) (by omega) c2 c1 (by omega) gg mj hc gl cO ((hv.ad kk).ad k3) Ey qa qb qk hj kg (by simp) (by simp) (by simp[uK])) ?_
 rintro _ ⟨H4,n4,W4⟩ ⟨BL,Lx,U4,QJ,R,v',Wo,r1,r2,EB,hO4⟩
 simp only at BL Lx U4 QJ Wo EB hO4
 refine⟨R,Wo,by rw[r1];simp,?_⟩
 have nc:GD (.loop R):=fun c e w h=>by cases h
 have o5:=hO4.pX (o:=.loop {R with st:=.exhausted}) Wo nc
 have gD5:(H4.set (n3+1) (.loop {R with st:=.exhausted})).get n3=some (.defs true):=by rw[T.ag,ak (by omega)];exact QJ
 have gB5:(H4.set (n3+1) (.loop {R with st:=.exhausted})).get (N+1)=some (.cells [v'] 69 true):=by rw[T.ag,ak (by omega)];exact EB
 have k5:∀i,i<N->(H4.set (n3+1) (.loop {R with st:=.exhausted})).get i=h.get i:=fun i hi=>by
  rw[T.ag,ak (by omega),U4 i (by omega) (by omega),k3.get i (by omega),kk.get i hi]
 show bz A.C _ (some (.ex (Ln R.eW) _ ⟨H4.set (n3+1) (.loop {R with st:=.exhausted}),n4,(n3+1)::W4⟩)) _
 generalize H4.set (n3+1) (.loop {R with st:=.exhausted})=F at*
 rw[r2]
 have lB:N+1<n4:=by omega
 have nd:GD (.defs true):=fun c e w h=>by cases h
 simp[gB5,lB,Ln]
 refine(Ykh gD5 fun i=>by simp).2 ?_
 simp[az]
 rw[<-Yr8 Ey]
 exact⟨by rw[ak (by omega),ak (by omega)];exact Qk BL (by omega),⟨by omega,fun i hi=>by rw[T.ag,ak (by omega)];exact k5 i hi⟩,(o5.pX gD5 nd).Et⟩
variable {G X:List (List Rat)} {N n:Nat} {h:T O}
set_option maxHeartbeats 4000000
def A.w64:=A.q Tryz.f64
def A.vJ:=A.ql A.w64 0 []
def A.b64:=(fun x0=>A.qb A.w64 [x0]) A.vJ
def A.k64:=@A.kk 64 53 [.tmp 4,.tmp 5] A.b64 (by kernel_rfl) rfl
def Zp9{st aA:St}{z:Nat}{i o:Nat}{cp:Option Nat}{s:Nat}{v':V}{x y:Option V}(e:mR st z (some (.slice i o n cp s)) (some x) (some y) (some none)=some (v',aA)):∀j∈cQ v',j=i:=by
 unfold mR qp at e
 simp only[EC,Src.ev]at e
 cases cp<;>simp only at e<;>repeat' split at e
 all_goals first
  |cases e;done
  |(simp only[an,bs]at e;obtain⟨rfl,_⟩:=e;simp[cQ])
def dT.drop{v:V}{l:List Rat}{w:List Nat}(hu:dT h N v l)(hn:n<=l.length)(h0:0<l.length):∃v',mR ⟨h,N,w⟩ 4 (some v) (some (some (.int .i64 n))) (some none) (some none)=some (v',⟨h,N,w⟩)/\dT h N v' (l.drop n):=by
 obtain⟨⟨cs,h1,h2,h3⟩,h4⟩:=hu
 obtain⟨v',e1,e2⟩:=Zs6 (w:=w) (by decide) h1 (lo:=n) (hi:=cs.length) (by omega) (aO _) (some (.int .i64 n)) none (.inl rfl) (.inr ⟨rfl,rfl⟩)
 rw[fb (aO _)]at e2
 refine⟨v',e1,⟨cs.drop n,e2,by simp[h2],fun j q hq=>?_⟩,fun i hi=>?_⟩
 ·rw[ff]at hq ⊢
  exact h3 _ q hq
 ·rcases h1 with⟨hc,_⟩|⟨i',o,cp,c,e,mP,rfl,_⟩
  ·rw[hc]at h2
   simp at h2
   omega
  ·have:=Zp9 e1 i hi
   exact h4 i (by simp[cQ,this])
def Ysh{P:Nat}{u:V}{l:List Rat}{e:TypeId}{rw:Bool}(hp:h.get P=some (.cells [.int .i64 n] e rw))(hP:P<N)(hu:dT h N u l)(hn:n<=l.length)(h0:0<l.length):mw A.C (.func 146 [] [.ptr P 0]) [u] h N (fun x h' n'=>dT h' n' x (l.drop n)):=by
 intro w
 obtain⟨v',e1,e2⟩:=dT.drop (w:=[]) hu hn h0
 rw[aM,A.k146 (by simp)]
 simp[A.b146,hp,hP,BH,e1,az]
 exact⟨ab.refl,e2⟩
def Wp{k:Nat}(h:k<G.length):(cj G X)[k]?=some (G[k]?.getD []++X[k]?.getD []):=by simp[cj,h]
def Ycf{K:Nat}(hG:bZ G K)(hX:bZ X K):bZ (cj G X) K:=fun r hr q hq=>by
 obtain⟨i,hi,rfl⟩:=eC.1 hr
 rcases lI.1 hq with h|h
 ·exact hG.at q h
 ·exact hX.at q h
def Ycz{c:Nat}{B:Nat->Nat}{u v:V}(hu:fK h N u G)(hv:fK h N v X)(hG:bp G n)(hX:bp X c)(hl:G.length=n)(hx:X.length=n)(h0:0<n)(hn:n<100)(gl:0<c)(hc:c<100)(yD:∀i,1<=B i)(Wq:∀k,bZ (aK (cj G X) k).1 (B (aK (cj G X) k).2.1))(hB:∀i,i<n->3*B i<=400000000):Fn A.C 64 [u,v] h N (fun x h' n'=>(vK G X n c=none/\x=.aV [.aa,.bool false])\/∃H y,vK G X n c=some H/\x=.aV [y,.bool true]/\fK h' n' y H):=by
 intro w
 have lu:=hu.len
 have Wr:ab h N ((h.set N (.cells [.int .i64 0] 3 true)).set N (.cells [.int .i64 n] 3 true)) (N+1):=(ab.refl.new _).set (aO _)
 have gB0:((h.set N (.cells [.int .i64 0] 3 true)).set N (.cells [.int .i64 n] 3 true)).get N=some (.cells [.int .i64 n] 3 true):=by rw[T.ag,ax rfl]
 rw[aM,A.k64 (by simp)]
 simp[A.b64,lu,hl,bD,ae]
 generalize (h.set N (.cells [.int .i64 0] 3 true)).set N (.cells [.int .i64 n] 3 true)=G0 at*
 have lV:=hu.ad Wr
 have mA:=hv.ad Wr
 have lW:∀t,t<=n->((cj G X).take t).length=t:=fun t ht=>by rw[gO,tv];omega
 refine bA [(7,8),(14,30)] (fun e r st=>e=.exit 0/\ar N st.w=[]/\ab G0 (N+1) st.h st.n/\∃v,r.get 7=some v/\gh (N+1) st.h st.n v (cj G X)) (fun i r st=>ar N st.w=[]/\ab G0 (N+1) st.h st.n/\∃k v,k+i=n/\r.get 14=some (.int .i64 (k:Nat))/\r.get 7=some v/\gh (N+1) st.h st.n v ((cj G X).take k)) n ?_ ?_ ?_
 ·exact⟨by simp,ab.refl,0,_,by omega,by simp,by simp,gh.nil⟩
 ·rintro i r ⟨H,m,W⟩ hr hf ⟨hW,hK,k,y,hk,oG,h7,hO⟩
  simp only at hW hK hO
  rw[bb]
  have lm:=hK.le
  cases i with
  |zero=>
   obtain rfl:k=n:=by omega
   rw[fb (by rw[tv];omega)]at hO
   simp[A.vJ,hr,hf,oG,h7,hW,hK]
   exact hO
  |succ i=>
   have au:k<n:=by omega
   have aS:(k:Int)<(n:Int):=by omega
   obtain⟨ga,GM⟩:=a_ (l:=G) (k:=k) (by omega)
   obtain⟨xa,Ws⟩:=a_ (l:=X) (k:=k) (by omega)
   have QK:=hG ga (bM GM)
   have lxa:=hX xa (bM Ws)
   obtain⟨i1,o1,c1,e1,w1,a,q1,q2,q3,q4,q5⟩:=CL (lV.ad hK) GM
   have lv:=hv.len
   rw[hx]at lv
   simp[A.vJ,hr,hf,oG,h7,au,aS,lu,hl,q1,q2,q3,q4]
   refine ay (Ygv q5.1 (by omega) (by omega)) ?_
   rintro z H2 n2 k2 hz
   have jA:=k2.le
   obtain⟨i3,o3,c3,e3,w3,b,p1,p2,p3,p4,p5⟩:=CL ((mA.ad hK).ad k2) Ws
   obtain⟨v1,h1,w1',j1,j2,j3,j4⟩:=GF.many (w:=[]) hz p5.1 (by omega) (by omega) (by omega)
   simp[-V.cells, -V.one,hr,hf,oG,h7,lv,p1,p2,p3,p4,vE,j1,au,aS]
   have ft:=j4.V9
   obtain⟨f1,f2,f3⟩:=ft.1.form
   have k3:ab H m h1 (n2+1):=k2.then j3
   have kD:ab h1 (n2+1) (h1.set (n2+1) (.cells [v1] 72 true)) (n2+1+1):=ab.refl.new _
   have oz:ae [V.aa] 0 [v1]=[v1]:=rfl
   obtain⟨v',h',w',s1,s2,s3,s4⟩:=gh.push (N0:=N+1) (x:=.slice (n2+1) 0 1 (some 1) 1) (w:=[]) ((hO.ad k3).ad kD) (ft.ad kD) (by omega) (by simp[ef,St.row,aC]) (by rw[lW k (by omega)];omega)
   simp(disch:=first|(simp;done)|omega|rfl) [-V.cells, -V.one,hr,hf,oG,h7,f1,f2,oz,vE,s1]
   refine⟨i,by omega,uK fun j hj=>?_,((hK.trans k3).trans kD).then s3,k+1,by omega,by simp,?_⟩
   ·rcases lI.1 hj with hj|hj
    ·have:=zi (s2.trans rfl) j (zz hj).1
     omega
    ·rcases lI.1 hj with hj|hj
     ·have:=zi (j2.trans rfl) j (zz hj).1
      omega
     ·exact zi hW j hj
   ·rw[uQ,Wp (by omega),GM,Ws]
    exact s4
 ·rintro _ r ⟨H,m,W⟩ hr ⟨rfl,hW,hK,y,h7,hO⟩
  simp only at hW hK hO
  have lm:=hK.le
  have I:=ry (uU hG hX (by omega)) (n:=n+c)
  have iw:=(lF (uU hG hX (by omega)) (n:=n+c)).2
  rw[tv,hl]at iw
  simp[hr,h7]
  refine ay (Zqv hO.Et (uU hG hX (by omega)) (by rw[tv];omega) (by rw[tv];omega) (by omega) yD Wq fun i hi _=>hB i (by rw[tv]at hi;omega)) ?_
  rintro _ H2 n2 k2 ⟨rv,pv,rfl,tR,vt⟩
  have jA:=k2.le
  have rk:=vt.sl
  have iG:=rk.len
  rw[gJ]at iG
  have LH:(Ah (aK (cj G X) (n+c)).2.2).length=(aK (cj G X) (n+c)).2.1:=by simp[Ah,I.len]
  rw[LH]at iG
  have gN:=(k2.get N (by omega)).trans ((hK.get N (by omega)).trans gB0)
  have Wu:N<n2:=by omega
  have kk:=(Wr.trans (hK.trans k2))
  by_cases c1:(aK (cj G X) (n+c)).2.1<n
  ·have c1':((aK (cj G X) (n+c)).2.1:Int)<(n:Int):=by omega
   have hs:vK G X n c=none:=by unfold vK;rw[ax (.inl c1)]
   simp[hr,iG,gN,Wu,c1,c1',az,hW,cn.cr]
   exact⟨kk,hs⟩
  ·have hd:(aK (cj G X) (n+c)).2.1=n:=by omega
   rw[hd]at iG LH
   obtain⟨p,hp⟩:=a_ (l:=(aK (cj G X) (n+c)).2.2) (k:=n-1) (by have:=I.len;omega)
   obtain⟨i3,o3,c3,e3,w3,p1,p2,p3,p4⟩:=rk.at (j:=n-1) (x:=.int .i64 p) (by simp[dI,Ah,hp])
   have xG:(n:Int)-1=((n-1:Nat):Int):=by omega
   have fg:((n-1:Nat):Int)<(n:Int):=by omega
   have LI:n-1<n:=by omega
   have cnn:¬(n:Int)<(n:Int):=by omega
   by_cases c2:p=n-1
   ·subst c2
    have hs:vK G X n c=some ((bY (cj G X) (n+c)).map (List.drop n)):=by
     unfold vK
     rw[ak]
     rw[hd,hp]
     simp
    have rl:∀r∈bY (cj G X) (n+c),r.length=n+c:=CJ (uU hG hX (by omega))
    simp(disch:=first|(simp;done)|omega|rfl) [hr,iG,gN,Wu,hd,cnn,xG,fg,LI,p1,p2,p3,p4,cn.cr,aJ]
    refine ay (Yez (List.drop n) tR (by rw[xz (uU hG hX (by omega)),hd];omega) fun l jf u' h' n' k' mS=>Ysh ((k'.get N (by omega)).trans gN) (by have:=k'.le;omega) mS (by rw[rl l jf];omega) (by rw[rl l jf];omega)) ?_
    rintro z H3 n3 k3 hz
    simp[hr,az,hW]
    exact⟨kk.trans k3,_,hs,hz⟩
   ·have c2':¬(p:Int)=((n-1:Nat):Int):=by omega
    have hs:vK G X n c=none:=by
     unfold vK
     rw[ax (.inr (by rw[hp];exact c2))]
    simp(disch:=first|(simp;done)|omega|rfl) [hr,iG,gN,Wu,hd,cnn,xG,fg,LI,p1,p2,p3,p4,c2,c2',az,hW,cn.cr,aJ]
    exact⟨kk,hs⟩
variable {D M:List (List Rat)} {w:List Rat}
set_option maxHeartbeats 2000000
def A.b102:=A.q Tryz.f102
def A.k102:=@A.kk 102 28 [.tmp 6,.tmp 7] A.b102 (by kernel_rfl) rfl
def pD(D M:List (List Rat))(w:List Rat):List (List Rat):=(dq (gk D M) M.length).map fun r=>vH r w
def pE(D M:List (List Rat))(w:List Rat):List (List Rat):=gk (pD D M w) (dq (gk D M) M.length)
def xH(D M:List (List Rat))(w:List Rat):Option (List (List Rat)):=vK (pE D M w) (pD D M w) M.length D.length
def vL:(pD D M w).length=M.length:=by
 unfold pD
 rw[gY,lO]
def ED:bp (pD D M w) w.length:=fun r hr=>by
 obtain⟨x,_,rfl⟩:=eC.1 hr
 simp[vH]
def yM:bp (pE D M w) M.length:=by
 have:=@LJ (pD D M w) (dq (gk D M) M.length)
 rw[lO]at this
 exact this
def xI:(pE D M w).length=M.length:=by
 unfold pE
 rw[Ew,vL]
def QL{n J K:Nat}(hM:bp M n)(qD:bZ D K)(qM:bZ M J)(hJ:1<=J)(hK:1<=K):bZ (gk D M) (n*(J+K+1)+1):=Wv qD (fun r hr=>⟨hM r hr,qM r hr⟩) hJ hK
def QM{B L:Nat}(q:bZ (gk D M) B)(qw:∀x∈w,Qb L x)(hB:1<=B)(hL:1<=L):bZ (pD D M w) (B+L):=fun r hr=>by
 obtain⟨x,hx,rfl⟩:=eC.1 hr
 exact Yr4 (zy q hB x hx).2 qw hB hL
def Ymi{B L:Nat}(q:bZ (gk D M) B)(qw:∀x∈w,Qb L x)(hB:1<=B)(hL:1<=L):bZ (pE D M w) (D.length*(B+(B+L)+1)+1):=
 Wv (QM q qw hB hL) (fun r hr=>by
  have:=zy (c:=M.length) q hB r hr
  rw[Ew]at this
  exact this) hB (by omega)
def Yjn{h:T O}{N n J K L:Nat}{u v y:V}(hu:fK h N u D)(hv:dT h N v w)(hy:fK h N y M)(hD:bp D n)(hM:bp M n)(hw:w.length=D.length)(jE:0<n)(hn:n<50)(fh:0<D.length)(hs:D.length<50)(kg:0<M.length)(hk:M.length<50)(qD:bZ D K)(qM:bZ M J)(qw:∀x∈w,Qb L x)(hJ:1<=J)(hK:1<=K)(hL:1<=L)(hS:D.length*(n*(J+K+1)+1+(n*(J+K+1)+1+L)+1)+1+2*(n*(J+K+1)+1+L+1)<=400000000){B:Nat->Nat}(Ww:∀i,1<=B i)(BM:∀k,bZ (aK (cj (pE D M w) (pD D M w)) k).1 (B (aK (cj (pE D M w) (pD D M w)) k).2.1))(Wx:∀i,i<M.length->3*B i<=400000000):Fn A.C 102 [u,v,y] h N (fun x h' n'=>(xH D M w=none/\x=.aV [.aa,.bool false])\/∃H z,xH D M w=some H/\x=.aV [z,.bool true]/\fK h' n' z H):=by
 intro W
 have qS:=QL hM qD qM hJ hK
 have lS:(gk D M).length=D.length:=Ew
 have tt:=Wg hM
 obtain⟨b1,EE⟩:∃b1,b1=n*(J+K+1)+1:=⟨_,rfl⟩
 have hb:n*(J+K+1)+1<=b1:=by omega
 have pY:J+K+1<=n*(J+K+1):=Nat.le_mul_of_pos_left _ jE
 rw[<-EE]at hS
 obtain⟨l0,eG⟩:=a_ fh
 obtain⟨i2,o2,c2,e2,w2,a,q1,q2,q3,q4,q5⟩:=CL hu eG
 rw[iX]at q4
 have la:=q5.1.len
 rw[hD l0 (bM eG)]at la
 have lu:=hu.len
 have vM:(0:Int)<(D.length:Int):=by omega
 have QN:=qS
 rw[<-EE]at QN
 rw[aM,A.k102 (by simp)]
 simp[A.b102,lu,fh,vM,q1,q2,q3,q4,la]
 refine ay (Wy hy (by omega) hM (by omega)) ?_
 rintro x1 H1 n1 k1 tS
 simp[]
 refine ay (Wz (n:=n) (c:=M.length) (j:=J) (k:=K) (hu.ad k1) tS.Et hD GL (by rw[lO];omega) (by rw[lO];exact jE) (by omega) (by rw[lO];omega) (by omega) qD (fun r hr=>(zy qM hJ r hr).2) hJ hK (by rw[lO];omega)) ?_
 rw[tt]
 rintro x2 H2 n2 k2 pZ
 have k02:=k1.trans k2
 simp[]
 refine ay (Zu8 (c:=M.length) (j0:=b1) (k0:=L) pZ (hv.ad k02) (by omega) (by omega) LJ kg (by omega) (by rw[lS];exact hw) QN qw (by omega) (by omega) (by omega)) ?_
 rintro x3 H3 n3 k3 BN
 have k03:=k02.trans k3
 have LK:fK H3 n3 x3 (pD D M w):=BN
 have rR:bp (pD D M w) D.length:=by rw[<-hw];exact ED
 simp[]
 refine ay (Wz (n:=D.length) (c:=M.length) (j:=b1) (k:=b1+L) LK (pZ.ad k3) rR LJ (by rw[lS];exact aO _) (by rw[lS];exact fh) (by rw[vL];omega) (by rw[lS];omega) (by omega) (QM QN qw (by omega) hL) QN (by omega) (by omega) (by rw[lS];omega)) ?_
 rintro x4 H4 n4 k4 Ai
 have CM:fK H4 n4 x4 (pE D M w):=Ai
 simp[]
 refine ay (Ycz (n:=M.length) (c:=D.length) (B:=B) CM (LK.ad k4) yM rR xI vL kg (by omega) fh (by omega) Ww BM Wx) ?_
 rintro x5 H5 n5 k5 BO
 have k05:=(k03.trans k4).trans k5
 rcases BO with⟨a1,rfl⟩|⟨H,z,a1,rfl,a2⟩
 ·simp[az,cn.cr]
  exact⟨k05,a1⟩
 ·simp[az,cn.cr]
  exact⟨k05,H,a1,a2⟩
end
end Go.Mx
