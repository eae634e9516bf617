/-What solves a matrix-/
import Derived.Test.YtgccnjdneojagaaGreatDoorLnA
set_option linter.all false
namespace Go.Mx
open Go Go.Proofs
variable {i j n:Nat} {m:List (List Rat)}
set_option maxRecDepth 1000000
def Zh{f:Nat->Rat}{n:Nat}:∀{c:Nat},sN f (n+c)=sN f n+sN (fun j=>f (n+j)) c
 |0=>by rw[gE];show sN f n=sN f n+0;rw[Rat.add_zero]
 |c+1=>by
  rw[<-qP]
  show sN f (n+c)+f (n+c)=sN f n+(sN (fun j=>f (n+j)) c+f (n+c))
  rw[Zh,Rat.add_assoc]
def Ykb{G X:List (List Rat)}(hG:aU G n)(hi:i<G.length):al (dL G X) i j=if j<n then al G i j else al X i (j-n):=by
 have hl:=hG.at hi;unfold al;rw[Ye5 hi,il];by_cases hj:j<n
 ·rw[av hj,mH (by omega)]
 rw[ak hj,qI (by omega),hl]
def Yvt(hi:i<m.length):al (m.map (List.drop n)) i j=al m i (n+j):=by unfold al;rw[eH,ct hi];simp only[qO,il,fJ]
def Zi{G X H:List (List Rat)}{c:Nat}(hG:aU G n)(hl:G.length=n)(hX:aU X c)(hx:X.length=n)(h0:0<n)(hs:rS G X n c=some H):H.length=n/\aU H c/\∀i j,i<n->j<c->sN (fun l=>al G i l*al H l j) n=al X i j:=by
 have hW:=yL hG hX (by omega);have I:=mU hW (n:=n+c);have hle:=(pH hW (n:=n+c)).2;rw[Au,hl]at hle;unfold rS at hs;split at hs
 ·cases hs
 rename_i hn;have hd:(aD (dL G X) (n+c)).2.1=n:=by omega
 have NJ:(aD (dL G X) (n+c)).2.2[n-1]?.getD 0=n-1:=by omega
 have hr:=nO (n:=n+c) hW;rw[hd]at hr;obtain rfl:=pC hs;have I2:zJ (aD (dL G X) (n+c)).1 n (aD (dL G X) (n+c)).2.2 n:=by
  rw[hd]at I;refine⟨I.len,I.le,fun i hi=>?_,I.xc,I.one,I.lead,fun i k h1 h2 h3=>I.rest i k h1 h2 (by omega)⟩;by_cases e:i=n-1
  ·rw[e,NJ];omega
  have:=I.xc i (n-1) (by omega) (by omega);omega
 have hp:∀i,i<n->(aD (dL G X) (n+c)).2.2[i]?.getD 0=i:=fun i hi=>S9 I2 hi;have vk:∀l,l∈(aD (dL G X) (n+c)).2.2↔l<n:=fun l=>by
  constructor
  ·intro hm;obtain⟨i,hi⟩:=pK hm;have yH:i<n:=by rw[<-I2.len];exact(yK.1 hi).1
   have:=hp i yH;rw[hi]at this;simp at this;omega
  intro aE;have:=hp l aE;rw[ct (by rw[I2.len];exact aE)]at this;simp only[il]at this;rw[<-this];exact List.getElem_mem _
 refine⟨by rw[di,hr],fun r Ef=>?_,fun i j hi hj=>?_⟩
 ·obtain⟨a,ha,rfl⟩:=bK.1 Ef;rw[yO,xg (n:=n+c) hW a ha];omega
 obtain⟨V,hV⟩:∃V:Nat->Rat,∀l,V l=if l<n then al ((aK (dL G X) (n+c)).map (List.drop n)) l j else if l=n+j then -1 else 0:=⟨_,fun _=>rfl⟩
 have hk:dS (dL G X) (n+c) V:=by
  rw[<-xb hW];intro a ha;rw[hr]at ha;rw[S7 hW (by rw[hd];exact ha),hp a ha,hV,av ha,Yvt (by rw[hr];exact ha),ve (i:=n+j) (by omega)]
  ·rw[ak (fun h=>by have:=(vk _).1 h;omega),hV,ak (by omega),av rfl];grind
  intro l _ aZ;by_cases e:l<n
  ·rw[av ((vk l).2 e)]
  rw[ak (fun h=>e ((vk l).1 h)),hV,ak e,ak aZ,Rat.mul_zero]
 have h:=hk i (by rw[Au];omega);rw[Zh,ve (i:=j) (n:=c) hj]at h
 ·rw[Ykb hG (by omega),ak (by omega),hV,ak (by omega),av rfl,Nat.add_sub_cancel_left]at h;rw[bq (g:=fun l=>al G i l*al ((aK (dL G X) (n+c)).map (List.drop n)) l j) fun l kM=>by rw[Ykb hG (by omega),av kM,hV,av kM]]at h;grind
 intro l _ aZ;rw[hV,ak (by omega),ak (by omega),Rat.mul_zero]
def La{c k:Nat}(h:(iw (aD m c).2.2 c)[i]?=some k)(hj:j<c):al (eE m c) i j=gp m c k j:=by unfold al eE;rw[eH,h];simp only[qO,il];exact Yxs hj
def Li{c:Nat}(hc:aU m c){i:Nat}(hi:i<(bS m c).length):dS m c fun l=>al (bS m c) i l:=by
 intro b hb;have h1:dS (eE m c) c fun l=>al m b l:=by
  intro a ha;obtain⟨k,hk⟩:=bj (l:=iw (aD m c).2.2 c) (k:=a) (by simpa[eE]using ha);have hm:=cy hk;simp only[iw,List.mem_filter,iL]at hm;have hf:k∉(aD m c).2.2:=by simpa using hm.2
  rw[<-FY hc hm.1 hf b hb];exact bq fun l hl=>by rw[La hk hl,Rat.mul_comm]
 rw[<-xb zO]at h1;have:=h1 i hi;rw[<-this];exact bq fun l _=>by rw[Rat.mul_comm];rfl
def NK{c:Nat}{e:Nat->Rat}(hc:aU m c)(h1:dS (aK m c) c e)(h2:dS (bS m c) c e):∀j,j<c->e j=0:=by
 have I:=mU hc (n:=c);have hl:=nO (n:=c) hc;have mW:dS (eE m c) c e:=(xb zO).1 h2;have hk:∀k,k<c->k∉(aD m c).2.2->sN (fun j=>gp m c k j*e j) c=0:=fun k hk hf=>by obtain⟨i,hi⟩:=pK (show k∈iw (aD m c).2.2 c by simp[iw,hk,hf]);have:=mW i (by simpa[eE]using gI hi);rw[<-this];exact bq fun l hl=>by rw[La hi hl]
 have he:∀j,j<c->e j=sN (fun k=>if k∈(aD m c).2.2 then 0 else e k*gp m c k j) c:=fun j hj=>by
  by_cases hm:j∈(aD m c).2.2
  ·obtain⟨i,hi,ei,ex⟩:=K9 hc hm;have h:=h1 i (by rw[hl];exact hi);rw[S7 hc hi,ei]at h;have e2:sN (fun k=>if k∈(aD m c).2.2 then 0 else e k*gp m c k j) c= -1*sN (fun k=>if k∈(aD m c).2.2 then 0 else al (aK m c) i k*e k) c:=by
    rw[<-gm];apply bq;intro k _;by_cases wB:k∈(aD m c).2.2
    ·rw[av wB,av wB,Rat.mul_zero]
    rw[ak wB,ak wB];have rL:¬j=k:=fun h=>by rw[h]at hm;exact wB hm
    unfold gp;rw[ak rL,av hm,ex];grind
   rw[e2];grind
  rw[ve (i:=j) hj]
  ·rw[ak hm];unfold gp;rw[av rfl,Rat.mul_one]
  intro k _ aZ;by_cases wB:k∈(aD m c).2.2
  ·rw[av wB]
  rw[ak wB];unfold gp;rw[ak (Ne.symm aZ),ak hm,Rat.mul_zero]
 have key:sN (fun j=>e j*e j) c=0:=by
  have e1:∀j,j<c->e j*e j=sN (fun k=>e j*(if k∈(aD m c).2.2 then 0 else e k*gp m c k j)) c:=fun j hj=>by rw[gm,<-he j hj]
  rw[bq e1,A6];apply pJ;intro k hkc;by_cases wB:k∈(aD m c).2.2
  ·exact pJ fun j _=>by rw[av wB,Rat.mul_zero]
  rw[bq (g:=fun j=>e k*(gp m c k j*e j)) fun j _=>by rw[ak wB];grind,gm,hk k hkc wB,Rat.mul_zero]
 intro j hj;exact Tb (NB (fun _ _=>NH) key j hj)
variable {m:List (List Rat)} {n:Nat} {v x:List Rat}
def CT{f g:Nat->Rat}:sN (fun i=>f i-g i) n=sN f n-sN g n:=by
 have:sN (fun i=>f i-g i) n=sN (fun i=>f i+ -1*g i) n:=bq fun i _=>by grind
 rw[this,w_,gm];grind
def FZ{a b:Nat->Rat}{M:List (List Rat)}{y:Nat->Rat}{c:Nat}(h:∀t,t<n->sN (fun l=>al M t l*a l) c=b t):sN (fun l=>a l*sN (fun t=>al M t l*y t) n) c=sN (fun t=>b t*y t) n:=by rw[bq (g:=fun l=>sN (fun t=>y t*(al M t l*a l)) n) fun l _=>by rw[<-gm];exact bq fun t _=>by grind,A6];apply bq;intro t ht;rw[gm,h t ht];grind
def Ylf{D:List (List Rat)}{x h y:Nat->Rat}{c:Nat}(hD:aU D c)(hh:∀b,b<(aK D c).length->sN (fun a=>al (dC (aK D c) (aK D c)) b a*h a) (aK D c).length=sN (fun l=>al (aK D c) b l*x l) c)(hy:∀b,b<(bS D c).length->sN (fun a=>al (dC (bS D c) (bS D c)) b a*y a) (bS D c).length=sN (fun l=>al (bS D c) b l*x l) c):∀j,j<c->x j=sN (fun a=>al (aK D c) a j*h a) (aK D c).length+sN (fun a=>al (bS D c) a j*y a) (bS D c).length:=by
 have rB:=xg (n:=c) hD;have rN:aU (bS D c) c:=NL;have hp:∀a b,a<(bS D c).length->b<(aK D c).length->sN (fun l=>al (aK D c) b l*al (bS D c) a l) c=0:=fun a b ha hb=>(xb hD).2 (Li hD ha) b hb;have key:=NK (e:=fun j=>x j-(sN (fun a=>al (aK D c) a j*h a) (aK D c).length+sN (fun a=>al (bS D c) a j*y a) (bS D c).length)) hD ?_ ?_
 ·intro j hj;have:=key j hj;grind
 ·intro b hb;have e1:=FZ (a:=fun l=>al (aK D c) b l) (M:=aK D c) (y:=h) (c:=c) (n:=(aK D c).length) (b:=fun t=>al (dC (aK D c) (aK D c)) b t) fun t ht=>by rw[Ed hb ht rB]
  have e2:=FZ (a:=fun l=>al (aK D c) b l) (M:=bS D c) (y:=y) (c:=c) (n:=(bS D c).length) (b:=fun _=>0) fun t ht=>by rw[<-hp t b ht hb];exact bq fun l _=>by rw[Rat.mul_comm]
  rw[pJ (f:=fun t=>0*y t) fun t _=>Rat.zero_mul _]at e2;rw[bq (g:=fun l=>al (aK D c) b l*x l-(al (aK D c) b l*sN (fun t=>al (aK D c) t l*h t) (aK D c).length+al (aK D c) b l*sN (fun t=>al (bS D c) t l*y t) (bS D c).length)) fun l _=>by grind,CT,w_,e1,e2,hh b hb];grind
 intro b hb;have e1:=FZ (a:=fun l=>al (bS D c) b l) (M:=bS D c) (y:=y) (c:=c) (n:=(bS D c).length) (b:=fun t=>al (dC (bS D c) (bS D c)) b t) fun t ht=>by rw[Ed hb ht rN]
 have e2:=FZ (a:=fun l=>al (bS D c) b l) (M:=aK D c) (y:=h) (c:=c) (n:=(aK D c).length) (b:=fun _=>0) fun t ht=>hp b t hb ht;rw[pJ (f:=fun t=>0*h t) fun t _=>Rat.zero_mul _]at e2;rw[bq (g:=fun l=>al (bS D c) b l*x l-(al (bS D c) b l*sN (fun t=>al (aK D c) t l*h t) (aK D c).length+al (bS D c) b l*sN (fun t=>al (bS D c) t l*y t) (bS D c).length)) fun l _=>by grind,CT,w_,e1,e2,hy b hb];grind
def vn(v:List Rat):List (List Rat):=dt [v] v.length
def NM:aU (vn v) 1:=@C0 [v] v.length
def Is:(vn v).length=v.length:=jN
def Ypx{a:Nat}(h:a<v.length):al (vn v) a 0=v[a]?.getD 0:=by unfold vn;rw[CZ h (by simp)];rfl
def F8{a b:List Rat}(h:a.length=n):dh a b=sN (fun l=>a[l]?.getD 0*b[l]?.getD 0) n:=by unfold dh;rw[h,Y6]
def Lj{c b:Nat}(h:aU m c)(hb:b<m.length):(m.map fun r=>dh r x)[b]?.getD 0=sN (fun l=>al m b l*x[l]?.getD 0) c:=by have hl:=h.at hb;rw[eH,ct hb];simp only[qO,il];rw[ct hb]at hl;simp only[il]at hl;rw[F8 hl];apply bq;intro l _;unfold al;rw[ct hb];rfl
def kZ(D:List (List Rat))(x:List Rat)(c:Nat):List Rat:=if (aK D c).length=0 then (List.range c).map fun _=>0 else (dt (aK D c) c).map fun r=>dh r (kX ((rS (dC (aK D c) (aK D c)) (vn ((aK D c).map fun r=>dh r x)) (aK D c).length 1).getD []) 0)
def rm(D:List (List Rat))(x:List Rat)(c:Nat):List Rat:=if (bS D c).length=0 then (List.range c).map fun _=>0 else (dt (bS D c) c).map fun r=>dh r (((CX (dC (bS D c) (bS D c)) (bS D c).length).getD []).map fun r=>dh r ((bS D c).map fun r=>dh r x))
def Ynr{c:Nat}(hc:aU m c):∃J,CX (dC (aK m c) (aK m c)) (aK m c).length=some J:=
 Ya9 (@Aw (aK m c) (aK m c)) vj fun v hv j hj=>by
  rw[nO hc]at hv hj
  exact Yx0 hc hv j hj
def Zj{c:Nat}(hc:aU m c)(h0:0<(aK m c).length)(hv:v.length=(aK m c).length):∃J,CX (dC (aK m c) (aK m c)) (aK m c).length=some J/\rS (dC (aK m c) (aK m c)) (vn v) (aK m c).length 1=some (dC J (dt (vn v) 1)):=by obtain⟨J,hJ⟩:=Ynr hc;refine⟨J,hJ,?_⟩;rw[Ypf (@Aw (aK m c) (aK m c)) vj h0 NM (by rw[Is,hv]),hJ];rfl
def Zk{c:Nat}{H:List (List Rat)}(hc:aU m c)(h0:0<(aK m c).length)(hs:rS (dC (aK m c) (aK m c)) (vn ((aK m c).map fun r=>dh r x)) (aK m c).length 1=some H):H.length=(aK m c).length/\aU H 1/\∀b,b<(aK m c).length->sN (fun a=>al (dC (aK m c) (aK m c)) b a*al H a 0) (aK m c).length=sN (fun l=>al (aK m c) b l*x[l]?.getD 0) c:=by obtain⟨q1,q2,q3⟩:=Zi (@Aw (aK m c) (aK m c)) vj NM (by rw[Is,di]) h0 hs;refine⟨q1,q2,fun b hb=>?_⟩;rw[q3 b 0 hb (by decide),Ypx (by rw[di];exact hb),Lj (xg hc) hb]
def Td{c j:Nat}{y:List Rat}(hj:j<c):((dt m c).map fun r=>dh r y)[j]?.getD 0=sN (fun a=>al m a j*y[a]?.getD 0) m.length:=by rw[Lj C0 (by rw[jN];exact hj)];exact bq fun a ha=>by rw[CZ hj ha]
def Yyn{a k:Nat}:(kX m k)[a]?.getD 0=al m a k:=by unfold kX al;rw[eH];cases m[a]?<;>rfl
def Lk{c j:Nat}:((List.range c).map fun _=>(0:Rat))[j]?.getD 0=0:=by rw[eH];cases (List.range c)[j]?<;>rfl
def Te{D:List (List Rat)}{c:Nat}(hD:aU D c):∀j,j<c->x[j]?.getD 0=(kZ D x c)[j]?.getD 0+(rm D x c)[j]?.getD 0:=by
 intro j hj;have hk:aU (eE D c) c:=zO;obtain⟨h,hh,eh⟩:∃h:Nat->Rat,(∀b,b<(aK D c).length->sN (fun a=>al (dC (aK D c) (aK D c)) b a*h a) (aK D c).length=sN (fun l=>al (aK D c) b l*x[l]?.getD 0) c)/\(kZ D x c)[j]?.getD 0=sN (fun a=>al (aK D c) a j*h a) (aK D c).length:=by
  unfold kZ;by_cases h0:(aK D c).length=0
  ·rw[av h0,Lk,h0];exact⟨fun _=>0,fun b hb=>absurd hb (Nat.not_lt_zero b),rfl⟩
  rw[ak h0];obtain⟨J,_,hs⟩:=Zj (v:=(aK D c).map fun r=>dh r x) hD (by omega) (by rw[di]);obtain⟨q1,q2,q3⟩:=Zk hD (by omega) hs;rw[hs,il];exact⟨_,q3,by rw[Td hj];exact bq fun a _=>by rw[Yyn]⟩
 obtain⟨y,hy,ey⟩:∃y:Nat->Rat,(∀b,b<(bS D c).length->sN (fun a=>al (dC (bS D c) (bS D c)) b a*y a) (bS D c).length=sN (fun l=>al (bS D c) b l*x[l]?.getD 0) c)/\(rm D x c)[j]?.getD 0=sN (fun a=>al (bS D c) a j*y a) (bS D c).length:=by
  unfold rm;by_cases h0:(bS D c).length=0
  ·rw[av h0,Lk,h0];exact⟨fun _=>0,fun b hb=>absurd hb (Nat.not_lt_zero b),rfl⟩
  rw[ak h0];obtain⟨J,hJ,hs⟩:=Zj (v:=(bS D c).map fun r=>dh r x) hk (Nat.pos_of_ne_zero h0) (by rw[di];rfl);have jv:rS (dC (bS D c) (bS D c)) (vn ((bS D c).map fun r=>dh r x)) (bS D c).length 1=some (dC J (dt (vn ((bS D c).map fun r=>dh r x)) 1)):=hs;obtain⟨q1,q2,q3⟩:=Zk hk (Nat.pos_of_ne_zero h0) jv;have hJ':CX (dC (bS D c) (bS D c)) (bS D c).length=some J:=hJ;rw[hJ',il];refine⟨_,q3,?_⟩;rw[Td hj];apply bq;intro a ha;congr 1;have lJ:J.length=(bS D c).length:=by rw[vj]at q1;exact q1
  rw[Ed (by rw[lJ];exact ha) (by rw[jN];decide) C0,Is,di];have rJ:aU J (bS D c).length:=by
   have:=hJ';unfold CX at this;split at this
   ·obtain rfl:=pC this;intro r hr;obtain⟨z,hz,rfl⟩:=bK.1 hr;rw[yO,xg (yL (@Aw (bS D c) (bS D c)) (Y7 (n:=(bS D c).length)) (by rw[Y8,vj];exact aM _)) z hz];omega
   cases this
  rw[Lj rJ (by rw[lJ];exact ha)];apply bq;intro l hl;rw[CZ (by decide) (by rw[Is,di];exact hl),Ypx (by rw[di];exact hl),Rat.mul_comm]
 rw[eh,ey];exact Ylf (x:=fun l=>x[l]?.getD 0) hD hh hy j hj
variable {b i j n:Nat}
def mX(i r:Nat):Nat:=if r<i then r else r+1
def jw(i:Nat):Rat:=if i%2=0 then 1 else -1
def dc:Nat->(Nat->Nat->Rat)->Rat
 |0,_=>1
 |n+1,A=>sN (fun i=>jw i*(A i 0*dc n (fun r u=>A (mX i r) (u+1)))) (n+1)
def bo(A:Nat->Nat->Rat)(t:Nat)(a:Nat->Rat):Nat->Nat->Rat:=fun r u=>if r=t then a u else A r u
def zM:∀{n:Nat} {A B:Nat->Nat->Rat},(∀r u,r<n->u<n->A r u=B r u)->dc n A=dc n B
 |0,_,_,_=>rfl
 |n+1,A,B,h=>by
  unfold dc
  apply bq
  intro i hi
  rw[h i 0 hi (by omega),zM fun r u hr hu=>h (mX i r) (u+1) (by unfold mX;split<;>omega) (by omega)]
def Yke:jw (i+1)= -jw i:=by
 unfold jw;by_cases h:i%2=0
 ·rw[av h,ak (by omega)]
 rw[ak h,av (by omega)];rfl
def Ywu{r:Nat}:mX i r≠i:=by unfold mX;split<;>omega
def Tf{x y:Rat}{a b:Nat->Rat}:∀{n t:Nat} {A:Nat->Nat->Rat},t<n->dc n (bo A t fun u=>x*a u+y*b u)=x*dc n (bo A t a)+y*dc n (bo A t b)
 |0,t,A,h=>by omega
 |n+1,t,A,h=>by
  unfold dc
  rw[<-gm,<-gm,<-w_]
  apply bq
  intro i hi
  by_cases e:i=t
  ·subst e
   have hm:∀v:Nat->Rat,dc n (fun r u=>bo A i v (mX i r) (u+1))=dc n (fun r u=>A (mX i r) (u+1)):=fun v=>zM fun r u _ _=>by
    unfold bo
    rw[ak Ywu]
   rw[hm,hm,hm]
   unfold bo
   rw[av rfl,av rfl,av rfl]
   grind
  ·obtain⟨s,hs,It⟩:∃s,(∀r,mX i r=t↔r=s)/\s<n:=by
    unfold mX
    by_cases c:t<i
    ·exact⟨t,fun r=>by split<;>omega,by omega⟩
    ·exact⟨t-1,fun r=>by split<;>omega,by omega⟩
   have hm:∀v:Nat->Rat,dc n (fun r u=>bo A t v (mX i r) (u+1))=dc n (bo (fun r u=>A (mX i r) (u+1)) s fun u=>v (u+1)):=fun v=>zM fun r u _ _=>by
    unfold bo
    by_cases hr:r=s
    ·rw[av ((hs r).2 hr),av hr]
    ·rw[ak fun h=>hr ((hs r).1 h),ak hr]
   rw[hm,hm,hm,Tf (n:=n) It]
   unfold bo
   rw[ak e,ak e,ak e]
   grind
def Tg:∀{n t:Nat} {A:Nat->Nat->Rat},t+1<n->(∀u,u<n->A t u=A (t+1) u)->dc n A=0
 |0,t,A,h,_=>by omega
 |n+1,t,A,h,he=>by
  unfold dc
  have hz:∀i,i<n+1->jw i*(A i 0*dc n (fun r u=>A (mX i r) (u+1)))=(if i=t then jw t*(A t 0*dc n (fun r u=>A (mX t r) (u+1))) else 0)+(if i=t+1 then jw (t+1)*(A (t+1) 0*dc n (fun r u=>A (mX (t+1) r) (u+1))) else 0):=fun i hi=>by
   by_cases e1:i=t
   ·subst e1
    rw[av rfl,ak (by omega),Rat.add_zero]
   ·by_cases e2:i=t+1
    ·subst e2
     rw[av rfl,ak (by omega),Rat.zero_add]
    ·rw[ak e1,ak e2,Rat.add_zero]
     have:dc n (fun r u=>A (mX i r) (u+1))=0:=by
      by_cases c:i<t
      ·refine Tg (t:=t-1) (by omega) fun u hu=>?_
       simp only[mX]
       rw[ak (by omega),ak (by omega),show t-1+1=t by omega]
       exact he (u+1) (by omega)
      ·refine Tg (t:=t) (by omega) fun u hu=>?_
       simp only[mX]
       rw[av (by omega),av (by omega)]
       exact he (u+1) (by omega)
     rw[this,Rat.mul_zero,Rat.mul_zero]
  rw[bq hz,w_,ve (i:=t) (by omega) fun j _ hj=>ak hj,ve (i:=t+1) (by omega) fun j _ hj=>ak hj,av rfl,av rfl,Yke,he 0 (by omega)]
  have:dc n (fun r u=>A (mX t r) (u+1))=dc n (fun r u=>A (mX (t+1) r) (u+1)):=zM fun r u _ hu=>by
   unfold mX
   by_cases e:r=t
   ·subst e
    rw[ak (by omega),av (by omega)]
    exact(he (u+1) (by omega)).symm
   ·by_cases c:r<t
    ·rw[av c,av (by omega)]
    ·rw[ak c,ak (by omega)]
  rw[this]
  grind
def Yft{A:Nat->Nat->Rat}{t:Nat}{r u:Nat}:bo A t (A t) r u=A r u:=by
 unfold bo;split
 ·rename_i h;rw[h]
 rfl
def Zt1{t:Nat}{A:Nat->Nat->Rat}:dc n (bo A t (A t))=dc n A:=zM fun _ _ _ _=>Yft
def SV{a b:Nat->Rat}{t:Nat}{A:Nat->Nat->Rat}(h:t<n):dc n (bo A t fun u=>a u+b u)=dc n (bo A t a)+dc n (bo A t b):=by have:=Tf (x:=1) (y:=1) (a:=a) (b:=b) (A:=A) h;rw[Rat.one_mul,Rat.one_mul]at this;rw[<-this];exact zM fun r u _ _=>by unfold bo;split<;>grind
def Yoc{a b:Nat->Rat}{t:Nat}{A:Nat->Nat->Rat}(h:t+1<n):dc n (bo (bo A t a) (t+1) b)= -dc n (bo (bo A t b) (t+1) a):=by
 have z:∀v:Nat->Rat,dc n (bo (bo A t v) (t+1) v)=0:=fun v=>Tg h fun u _=>by unfold bo;rw[ak (by omega),av rfl,av rfl]
 have sw:∀v w:Nat->Rat,dc n (bo (bo A t v) (t+1) w)=dc n (bo (bo A (t+1) w) t v):=fun v w=>zM fun r u _ _=>by
  unfold bo;by_cases e1:r=t+1
  ·rw[av e1,ak (by omega),av e1]
  rw[ak e1,ak e1]
 have h0:=z fun u=>a u+b u;rw[SV h,sw _ a,sw _ b,SV (by omega),SV (by omega),<-sw,<-sw,<-sw,<-sw,z,z]at h0;grind
def Zl{n:Nat}:∀{k s:Nat} {A:Nat->Nat->Rat},s+1+k<n->(∀u,u<n->A s u=A (s+1+k) u)->dc n A=0
 |0,s,A,h,he=>Tg h he
 |k+1,s,A,h,he=>by
  have h1:dc n A=dc n (bo (bo A (s+1+k) (A (s+1+k))) (s+1+k+1) (A (s+1+k+1))):=zM fun r u _ _=>by
   unfold bo
   by_cases e:r=s+1+k+1
   ·rw[av e,e]
   ·rw[ak e]
    by_cases e2:r=s+1+k
    ·rw[av e2,e2]
    ·rw[ak e2]
  rw[h1,Yoc (by omega),Zl (k:=k) (s:=s) (by omega) fun u hu=>?_]
  ·rfl
  ·unfold bo
   rw[ak (by omega),ak (by omega),ak (by omega),av rfl]
   exact he u hu
def Yuy{A:Nat->Nat->Rat}(hi:i<n)(hj:j<n)(aZ:i≠j)(he:∀u,u<n->A i u=A j u):dc n A=0:=by
 rcases Nat.lt_or_gt_of_ne aZ with h|h
 ·exact Zl (k:=j-i-1) (s:=i) (by omega) (by rw[show i+1+(j-i-1)=j by omega];exact he)
 exact Zl (k:=i-j-1) (s:=j) (by omega) (by rw[show j+1+(i-j-1)=i by omega];exact fun u hu=>(he u hu).symm)
def Yjm{A:Nat->Nat->Rat}(hi:i<n)(hj:j<n):dc n (bo A j (A i))=if i=j then dc n A else 0:=by
 by_cases e:i=j
 ·subst e;rw[av rfl,Zt1]
 rw[ak e];exact Yuy hi hj e fun u _=>by unfold bo;rw[ak e,av rfl]
def Yoa{t:Nat}{A:Nat->Nat->Rat}(h:t<n):dc n (bo A t fun _=>0)=0:=by
 have:=Tf (x:=0) (y:=0) (a:=fun _=>0) (b:=fun _=>0) (A:=A) h;have e:dc n (bo A t fun _=>0)=dc n (bo A t fun _=>(0:Rat)*0+0*0):=zM fun r u _ _=>by
  unfold bo;split
  ·show (0:Rat)=0*0+0*0;grind
  rfl
 rw[e,this];grind
def YR{n j:Nat}{A:Nat->Nat->Rat}{c:Nat->Rat}{w:Nat->Nat->Rat}(hj:j<n):∀{k:Nat},dc n (bo A j fun u=>sN (fun t=>c t*w t u) k)=sN (fun t=>c t*dc n (bo A j (w t))) k
 |0=>Yoa hj
 |k+1=>by
  have:=Tf (x:=1) (y:=c k) (a:=fun u=>sN (fun t=>c t*w t u) k) (b:=w k) (A:=A) hj
  rw[Rat.one_mul,YR hj]at this
  unfold sN
  rw[<-this]
  exact zM fun r u _ _=>by
   unfold bo
   split
   ·show _=1*_+_
    rw[Rat.one_mul]
   ·rfl
def CR(l u:Nat):Rat:=if u=l then 1 else 0
def Yob{A:Nat->Nat->Rat}{v:Nat->Rat}(hj:j<n):dc n (bo A j v)=sN (fun l=>v l*dc n (bo A j (CR l))) n:=by
 rw[<-YR hj];apply zM;intro r u _ hu;unfold bo;split
 ·show v u=sN (fun t=>v t*CR t u) n;rw[ve (i:=u) hu]
  ·unfold CR;rw[av rfl,Rat.mul_one]
  intro l _ aZ;unfold CR;rw[ak (Ne.symm aZ),Rat.mul_zero]
 rfl
def Ybm{π:Rat}:∀{n:Nat} {A:Nat->Nat->Rat},(∀u,u<n->A n u=0)->A n n=π->dc (n+1) A=π*dc n A
 |0,A,_,h=>by
  simp only[dc,sN,h,jw]
  grind
 |n+1,A,hz,h=>by
  rw[dc]
  have e:∀i,i<n+1+1->jw i*(A i 0*dc (n+1) (fun r u=>A (mX i r) (u+1)))=if i<n+1 then π*(jw i*(A i 0*dc n (fun r u=>A (mX i r) (u+1)))) else 0:=fun i hi=>by
   by_cases c:i<n+1
   ·rw[av c,Ybm (n:=n) (π:=π) (fun u hu=>?_) ?_]
    ·grind
    ·simp only[mX]
     rw[ak (by omega)]
     exact h
    ·simp only[mX]
     rw[ak (by omega)]
     exact hz _ (by omega)
   ·obtain rfl:i=n+1:=by omega
    rw[ak c,hz 0 (by omega),Rat.zero_mul,Rat.mul_zero]
  rw[bq e]
  show sN _ (n+1)+(if n+1<n+1 then π*(jw (n+1)*(A (n+1) 0*dc n (fun r u=>A (mX (n+1) r) (u+1)))) else 0)=_
  rw[ak (by omega),Rat.add_zero,dc,<-gm]
  apply bq
  intro i hi
  rw[av hi]
def df(b:Nat)(q:Rat):Prop:=∃z:Int,q=(z:Rat)/\z.natAbs<2^b
def df.mul{a:Nat}{p q:Rat}(hp:df a p)(hq:df b q):df (a+b) (p*q):=by obtain⟨x,rfl,hx⟩:=hp;obtain⟨y,rfl,hy⟩:=hq;refine⟨x*y,by rw[Rat.intCast_mul],?_⟩;rw[wS,mJ];exact C2 hx hy
def df.neg{q:Rat}(hq:df b q):df b (-q):=by obtain⟨y,rfl,hy⟩:=hq;exact⟨-y,by rw[Rat.intCast_neg],by rw[yE];exact hy⟩
def df.sum{b:Nat}{f:Nat->Rat}:∀{n:Nat},(∀i,i<n->df b (f i))->∃z:Int,sN f n=(z:Rat)/\z.natAbs<=n*2^b
 |0,_=>⟨0,rfl,by simp⟩
 |n+1,h=>by
  obtain⟨z,h1,h2⟩:=df.sum (n:=n) fun i hi=>h i (by omega)
  obtain⟨y,h3,h4⟩:=h n (by omega)
  refine⟨z+y,by unfold sN;rw[h1,h3,Rat.intCast_add],?_⟩
  have:=Int.natAbs_add_le z y
  rw[js]
  omega
def df.A7{m:Nat}{f:Nat->Rat}(h:∀i,i<n->df b (f i))(hn:n<2^m):df (b+m) (sN f n):=by obtain⟨z,h1,h2⟩:=df.sum h;refine⟨z,h1,oC h2 ?_⟩;rw[Nat.add_comm,mJ];exact Ll hn (s_ b)
def df.mono{a:Nat}{q:Rat}(h:df a q)(f_:a<=b):df b q:=by obtain⟨z,h1,h2⟩:=h;exact⟨z,h1,fg h2 (rO (by decide) f_)⟩
def df.jw:df 1 (jw i):=by
 unfold Go.Mx.jw;split
 ·exact⟨1,rfl,by decide⟩
 exact⟨-1,rfl,by decide⟩
def YT{b:Nat}:∀{n:Nat} {A:Nat->Nat->Rat},(∀r u,r<n->u<n->df b (A r u))->df (n*(b+n+1)+1) (dc n A)
 |0,_,_=>⟨1,rfl,by rw[Nat.zero_mul];decide⟩
 |n+1,A,h=>by
  unfold dc
  have e:∀i,i<n+1->df (1+(b+(n*(b+n+1)+1))) (jw i*(A i 0*dc n (fun r u=>A (mX i r) (u+1)))):=fun i hi=>df.jw.mul ((h i 0 hi (by omega)).mul (YT fun r u hr hu=>h _ _ (by unfold mX;split<;>omega) (by omega)))
  have:=df.A7 (m:=n+1) e Nat.lt_two_pow_self
  refine this.mono ?_
  have:(n+1)*(b+(n+1)+1)=n*(b+n+1)+n+(b+n+2):=by grind
  omega
end Go.Mx
