/-What solves a matrix-/
import Derived.Test.YtnkdakmfipgidaaGreatDoorLnA
set_option linter.all false
namespace Go.Mx
open Go Go.Proofs
variable {i j n:Nat} {m:List (List Rat)}
set_option maxRecDepth 1000000
def Ih{f:Nat->Rat}{n:Nat}:∀{c:Nat},sN f (n+c)=sN f n+sN (fun j=>f (n+j)) c
 |0=>by rw[gE];show sN f n=sN f n+0;rw[Rat.add_zero]
 |c+1=>by
  rw[<-qe]
  show sN f (n+c)+f (n+c)=sN f n+(sN (fun j=>f (n+j)) c+f (n+c))
  rw[Ih,Rat.add_assoc]
def Yz{G X:List (List Rat)}(hG:aR G n)(hi:i<G.length):al (dp G X) i j=if j<n then al G i j else al X i (j-n):=by
 have hl:=hG.at hi;unfold al;rw[Yd1 hi,g_];by_cases hj:j<n
 ·rw[ar hj,mj (by omega)]
 rw[ak hj,pY (by omega),hl]
def Ytq(hi:i<m.length):al (m.map (List.drop n)) i j=al m i (n+j):=by unfold al;rw[eG,bV hi];simp only[qc,g_,fF]
def Sv{G X H:List (List Rat)}{c:Nat}(hG:aR G n)(hl:G.length=n)(hX:aR X c)(hx:X.length=n)(h0:0<n)(hs:uA G X n c=some H):H.length=n/\aR H c/\∀i j,i<n->j<c->sN (fun l=>al G i l*al H l j) n=al X i j:=by
 have hW:=zi hG hX (by omega);have I:=mE hW (n:=n+c);have hle:=(nR hW (n:=n+c)).2;rw[yh,hl]at hle;unfold uA at hs;split at hs
 ·cases hs
 rename_i hn;have hd:(aF (dp G X) (n+c)).2.1=n:=by omega
 have AN:(aF (dp G X) (n+c)).2.2[n-1]?.getD 0=n-1:=by omega
 have hr:=p9 (n:=n+c) hW;rw[hd]at hr;obtain rfl:=mC hs;have I2:ym (aF (dp G X) (n+c)).1 n (aF (dp G X) (n+c)).2.2 n:=by
  rw[hd]at I;refine⟨I.len,I.le,fun i hi=>?_,I.uy,I.one,I.lead,fun i k h1 h2 h3=>I.rest i k h1 h2 (by omega)⟩;by_cases e:i=n-1
  ·rw[e,AN];omega
  have:=I.uy i (n-1) (by omega) (by omega);omega
 have hp:∀i,i<n->(aF (dp G X) (n+c)).2.2[i]?.getD 0=i:=fun i hi=>Nn I2 hi;have qE:∀l,l∈(aF (dp G X) (n+c)).2.2↔l<n:=fun l=>by
  constructor
  ·intro hm;obtain⟨i,hi⟩:=nw hm;have vz:i<n:=by rw[<-I2.len];exact(wj.1 hi).1
   have:=hp i vz;rw[hi]at this;simp at this;omega
  intro aC;have:=hp l aC;rw[bV (by rw[I2.len];exact aC)]at this;simp only[g_]at this;rw[<-this];exact List.getElem_mem _
 refine⟨by rw[cG,hr],fun r DR=>?_,fun i j hi hj=>?_⟩
 ·obtain⟨a,ha,rfl⟩:=bF.1 DR;rw[zk,CI (n:=n+c) hW a ha];omega
 obtain⟨V,hV⟩:∃V:Nat->Rat,∀l,V l=if l<n then al ((bb (dp G X) (n+c)).map (List.drop n)) l j else if l=n+j then -1 else 0:=⟨_,fun _=>rfl⟩
 have hk:ew (dp G X) (n+c) V:=by
  rw[<-zY hW];intro a ha;rw[hr]at ha;rw[Nl hW (by rw[hd];exact ha),hp a ha,hV,ar ha,Ytq (by rw[hr];exact ha),tU (i:=n+j) (by omega)]
  ·rw[ak (fun h=>by have:=(qE _).1 h;omega),hV,ak (by omega),ar rfl];grind
  intro l _ aW;by_cases e:l<n
  ·rw[ar ((qE l).2 e)]
  rw[ak (fun h=>e ((qE l).1 h)),hV,ak e,ak aW,Rat.mul_zero]
 have h:=hk i (by rw[yh];omega);rw[Ih,tU (i:=j) (n:=c) hj]at h
 ·rw[Yz hG (by omega),ak (by omega),hV,ak (by omega),ar rfl,Nat.add_sub_cancel_left]at h;rw[bg (g:=fun l=>al G i l*al ((bb (dp G X) (n+c)).map (List.drop n)) l j) fun l jj=>by rw[Yz hG (by omega),ar jj,hV,ar jj]]at h;grind
 intro l _ aW;rw[hV,ak (by omega),ak (by omega),Rat.mul_zero]
def K4{c k:Nat}(h:(jJ (aF m c).2.2 c)[i]?=some k)(hj:j<c):al (gG m c) i j=gw m c k j:=by unfold al gG;rw[eG,h];simp only[qc,g_];exact Yvr hj
def Zzu{c:Nat}(hc:aR m c){i:Nat}(hi:i<(yn m c).length):ew m c fun l=>al (yn m c) i l:=by
 intro b hb;have h1:ew (gG m c) c fun l=>al m b l:=by
  intro a ha;obtain⟨k,hk⟩:=bj (l:=jJ (aF m c).2.2 c) (k:=a) (by simpa[gG]using ha);have hm:=cF hk;simp only[jJ,List.mem_filter,gm]at hm;have hf:k∉(aF m c).2.2:=by simpa using hm.2
  rw[<-FX hc hm.1 hf b hb];exact bg fun l hl=>by rw[K4 hk hl,Rat.mul_comm]
 rw[<-zY F0]at h1;have:=h1 i hi;rw[<-this];exact bg fun l _=>by rw[Rat.mul_comm];rfl
def Yn5{c:Nat}{e:Nat->Rat}(hc:aR m c)(h1:ew (bb m c) c e)(h2:ew (yn m c) c e):∀j,j<c->e j=0:=by
 have I:=mE hc (n:=c);have hl:=p9 (n:=c) hc;have mG:ew (gG m c) c e:=(zY F0).1 h2;have hk:∀k,k<c->k∉(aF m c).2.2->sN (fun j=>gw m c k j*e j) c=0:=fun k hk hf=>by obtain⟨i,hi⟩:=nw (show k∈jJ (aF m c).2.2 c by simp[jJ,hk,hf]);have:=mG i (by simpa[gG]using gZ hi);rw[<-this];exact bg fun l hl=>by rw[K4 hi hl]
 have he:∀j,j<c->e j=sN (fun k=>if k∈(aF m c).2.2 then 0 else e k*gw m c k j) c:=fun j hj=>by
  by_cases hm:j∈(aF m c).2.2
  ·obtain⟨i,hi,ei,ex⟩:=KZ hc hm;have h:=h1 i (by rw[hl];exact hi);rw[Nl hc hi,ei]at h;have e2:sN (fun k=>if k∈(aF m c).2.2 then 0 else e k*gw m c k j) c= -1*sN (fun k=>if k∈(aF m c).2.2 then 0 else al (bb m c) i k*e k) c:=by
    rw[<-fM];apply bg;intro k _;by_cases vA:k∈(aF m c).2.2
    ·rw[ar vA,ar vA,Rat.mul_zero]
    rw[ak vA,ak vA];have qU:¬j=k:=fun h=>by rw[h]at hm;exact vA hm
    unfold gw;rw[ak qU,ar hm,ex];grind
   rw[e2];grind
  rw[tU (i:=j) hj]
  ·rw[ak hm];unfold gw;rw[ar rfl,Rat.mul_one]
  intro k _ aW;by_cases vA:k∈(aF m c).2.2
  ·rw[ar vA]
  rw[ak vA];unfold gw;rw[ak (Ne.symm aW),ak hm,Rat.mul_zero]
 have key:sN (fun j=>e j*e j) c=0:=by
  have e1:∀j,j<c->e j*e j=sN (fun k=>e j*(if k∈(aF m c).2.2 then 0 else e k*gw m c k j)) c:=fun j hj=>by rw[fM,<-he j hj]
  rw[bg e1,zh];apply pj;intro k hkc;by_cases vA:k∈(aF m c).2.2
  ·exact pj fun j _=>by rw[ar vA,Rat.mul_zero]
  rw[bg (g:=fun j=>e k*(gw m c k j*e j)) fun j _=>by rw[ak vA];grind,fM,hk k hkc vA,Rat.mul_zero]
 intro j hj;exact Ss (Nk (fun _ _=>Sr) key j hj)
variable {n:Nat}
def K6{f g:Nat->Rat}:sN (fun i=>f i-g i) n=sN f n-sN g n:=by
 have:sN (fun i=>f i-g i) n=sN (fun i=>f i+ -1*g i) n:=bg fun i _=>by grind
 rw[this,zg,fM];grind
def YA{a b:Nat->Rat}{M:List (List Rat)}{y:Nat->Rat}{c:Nat}(h:∀t,t<n->sN (fun l=>al M t l*a l) c=b t):sN (fun l=>a l*sN (fun t=>al M t l*y t) n) c=sN (fun t=>b t*y t) n:=by rw[bg (g:=fun l=>sN (fun t=>y t*(al M t l*a l)) n) fun l _=>by rw[<-fM];exact bg fun t _=>by grind,zh];apply bg;intro t ht;rw[fM,h t ht];grind
def YB{a b:List Rat}(h:a.length=n):e_ a b=sN (fun l=>a[l]?.getD 0*b[l]?.getD 0) n:=by unfold e_;rw[h,Yk]
def F3{m:List (List Rat)}{x:List Rat}{c b:Nat}(h:aR m c)(hb:b<m.length):(m.map fun r=>e_ r x)[b]?.getD 0=sN (fun l=>al m b l*x[l]?.getD 0) c:=by have hl:=h.at hb;rw[eG,bV hb];simp only[qc,g_];rw[bV hb]at hl;simp only[g_]at hl;rw[YB hl];apply bg;intro l _;unfold al;rw[bV hb];rfl
def Zyn{m:List (List Rat)}{c j:Nat}{y:List Rat}(hj:j<c):((cn m c).map fun r=>e_ r y)[j]?.getD 0=sN (fun a=>al m a j*y[a]?.getD 0) m.length:=by rw[F3 AL (by rw[kh];exact hj)];exact bg fun a ha=>by rw[yi hj ha]
def Yjd{c j:Nat}:((List.range c).map fun _=>(0:Rat))[j]?.getD 0=0:=by rw[eG];cases (List.range c)[j]?<;>rfl
variable {b i j n:Nat}
def mH(i r:Nat):Nat:=if r<i then r else r+1
def jk(i:Nat):Rat:=if i%2=0 then 1 else -1
def de:Nat->(Nat->Nat->Rat)->Rat
 |0,_=>1
 |n+1,A=>sN (fun i=>jk i*(A i 0*de n (fun r u=>A (mH i r) (u+1)))) (n+1)
def bm(A:Nat->Nat->Rat)(t:Nat)(a:Nat->Rat):Nat->Nat->Rat:=fun r u=>if r=t then a u else A r u
def zm:∀{n:Nat} {A B:Nat->Nat->Rat},(∀r u,r<n->u<n->A r u=B r u)->de n A=de n B
 |0,_,_,_=>rfl
 |n+1,A,B,h=>by
  unfold de
  apply bg
  intro i hi
  rw[h i 0 hi (by omega),zm fun r u hr hu=>h (mH i r) (u+1) (by unfold mH;split<;>omega) (by omega)]
def Yix:jk (i+1)= -jk i:=by
 unfold jk;by_cases h:i%2=0
 ·rw[ar h,ak (by omega)]
 rw[ak h,ar (by omega)];rfl
def Yuv{r:Nat}:mH i r≠i:=by unfold mH;split<;>omega
def Sw{x y:Rat}{a b:Nat->Rat}:∀{n t:Nat} {A:Nat->Nat->Rat},t<n->de n (bm A t fun u=>x*a u+y*b u)=x*de n (bm A t a)+y*de n (bm A t b)
 |0,t,A,h=>by omega
 |n+1,t,A,h=>by
  unfold de
  rw[<-fM,<-fM,<-zg]
  apply bg
  intro i hi
  by_cases e:i=t
  ·subst e
   have hm:∀v:Nat->Rat,de n (fun r u=>bm A i v (mH i r) (u+1))=de n (fun r u=>A (mH i r) (u+1)):=fun v=>zm fun r u _ _=>by
    unfold bm
    rw[ak Yuv]
   rw[hm,hm,hm]
   unfold bm
   rw[ar rfl,ar rfl,ar rfl]
   grind
  ·obtain⟨s,hs,Ii⟩:∃s,(∀r,mH i r=t↔r=s)/\s<n:=by
    unfold mH
    by_cases c:t<i
    ·exact⟨t,fun r=>by split<;>omega,by omega⟩
    ·exact⟨t-1,fun r=>by split<;>omega,by omega⟩
   have hm:∀v:Nat->Rat,de n (fun r u=>bm A t v (mH i r) (u+1))=de n (bm (fun r u=>A (mH i r) (u+1)) s fun u=>v (u+1)):=fun v=>zm fun r u _ _=>by
    unfold bm
    by_cases hr:r=s
    ·rw[ar ((hs r).2 hr),ar hr]
    ·rw[ak fun h=>hr ((hs r).1 h),ak hr]
   rw[hm,hm,hm,Sw (n:=n) Ii]
   unfold bm
   rw[ak e,ak e,ak e]
   grind
def Sx:∀{n t:Nat} {A:Nat->Nat->Rat},t+1<n->(∀u,u<n->A t u=A (t+1) u)->de n A=0
 |0,t,A,h,_=>by omega
 |n+1,t,A,h,he=>by
  unfold de
  have hz:∀i,i<n+1->jk i*(A i 0*de n (fun r u=>A (mH i r) (u+1)))=(if i=t then jk t*(A t 0*de n (fun r u=>A (mH t r) (u+1))) else 0)+(if i=t+1 then jk (t+1)*(A (t+1) 0*de n (fun r u=>A (mH (t+1) r) (u+1))) else 0):=fun i hi=>by
   by_cases e1:i=t
   ·subst e1
    rw[ar rfl,ak (by omega),Rat.add_zero]
   ·by_cases e2:i=t+1
    ·subst e2
     rw[ar rfl,ak (by omega),Rat.zero_add]
    ·rw[ak e1,ak e2,Rat.add_zero]
     have:de n (fun r u=>A (mH i r) (u+1))=0:=by
      by_cases c:i<t
      ·refine Sx (t:=t-1) (by omega) fun u hu=>?_
       simp only[mH]
       rw[ak (by omega),ak (by omega),show t-1+1=t by omega]
       exact he (u+1) (by omega)
      ·refine Sx (t:=t) (by omega) fun u hu=>?_
       simp only[mH]
       rw[ar (by omega),ar (by omega)]
       exact he (u+1) (by omega)
     rw[this,Rat.mul_zero,Rat.mul_zero]
  rw[bg hz,zg,tU (i:=t) (by omega) fun j _ hj=>ak hj,tU (i:=t+1) (by omega) fun j _ hj=>ak hj,ar rfl,ar rfl,Yix,he 0 (by omega)]
  have:de n (fun r u=>A (mH t r) (u+1))=de n (fun r u=>A (mH (t+1) r) (u+1)):=zm fun r u _ hu=>by
   unfold mH
   by_cases e:r=t
   ·subst e
    rw[ak (by omega),ar (by omega)]
    exact(he (u+1) (by omega)).symm
   ·by_cases c:r<t
    ·rw[ar c,ar (by omega)]
    ·rw[ak c,ak (by omega)]
  rw[this]
  grind
def Yeq{A:Nat->Nat->Rat}{t:Nat}{r u:Nat}:bm A t (A t) r u=A r u:=by
 unfold bm;split
 ·rename_i h;rw[h]
 rfl
def Zsz{t:Nat}{A:Nat->Nat->Rat}:de n (bm A t (A t))=de n A:=zm fun _ _ _ _=>Yeq
def Sy{a b:Nat->Rat}{t:Nat}{A:Nat->Nat->Rat}(h:t<n):de n (bm A t fun u=>a u+b u)=de n (bm A t a)+de n (bm A t b):=by have:=Sw (x:=1) (y:=1) (a:=a) (b:=b) (A:=A) h;rw[Rat.one_mul,Rat.one_mul]at this;rw[<-this];exact zm fun r u _ _=>by unfold bm;split<;>grind
def Ymr{a b:Nat->Rat}{t:Nat}{A:Nat->Nat->Rat}(h:t+1<n):de n (bm (bm A t a) (t+1) b)= -de n (bm (bm A t b) (t+1) a):=by
 have z:∀v:Nat->Rat,de n (bm (bm A t v) (t+1) v)=0:=fun v=>Sx h fun u _=>by unfold bm;rw[ak (by omega),ar rfl,ar rfl]
 have sw:∀v w:Nat->Rat,de n (bm (bm A t v) (t+1) w)=de n (bm (bm A (t+1) w) t v):=fun v w=>zm fun r u _ _=>by
  unfold bm;by_cases e1:r=t+1
  ·rw[ar e1,ak (by omega),ar e1]
  rw[ak e1,ak e1]
 have h0:=z fun u=>a u+b u;rw[Sy h,sw _ a,sw _ b,Sy (by omega),Sy (by omega),<-sw,<-sw,<-sw,<-sw,z,z]at h0;grind
def YC{n:Nat}:∀{k s:Nat} {A:Nat->Nat->Rat},s+1+k<n->(∀u,u<n->A s u=A (s+1+k) u)->de n A=0
 |0,s,A,h,he=>Sx h he
 |k+1,s,A,h,he=>by
  have h1:de n A=de n (bm (bm A (s+1+k) (A (s+1+k))) (s+1+k+1) (A (s+1+k+1))):=zm fun r u _ _=>by
   unfold bm
   by_cases e:r=s+1+k+1
   ·rw[ar e,e]
   ·rw[ak e]
    by_cases e2:r=s+1+k
    ·rw[ar e2,e2]
    ·rw[ak e2]
  rw[h1,Ymr (by omega),YC (k:=k) (s:=s) (by omega) fun u hu=>?_]
  ·rfl
  ·unfold bm
   rw[ak (by omega),ak (by omega),ak (by omega),ar rfl]
   exact he u hu
def Yss{A:Nat->Nat->Rat}(hi:i<n)(hj:j<n)(aW:i≠j)(he:∀u,u<n->A i u=A j u):de n A=0:=by
 rcases Nat.lt_or_gt_of_ne aW with h|h
 ·exact YC (k:=j-i-1) (s:=i) (by omega) (by rw[show i+1+(j-i-1)=j by omega];exact he)
 exact YC (k:=i-j-1) (s:=j) (by omega) (by rw[show j+1+(i-j-1)=i by omega];exact fun u hu=>(he u hu).symm)
def Yh4{A:Nat->Nat->Rat}(hi:i<n)(hj:j<n):de n (bm A j (A i))=if i=j then de n A else 0:=by
 by_cases e:i=j
 ·subst e;rw[ar rfl,Zsz]
 rw[ak e];exact Yss hi hj e fun u _=>by unfold bm;rw[ak e,ar rfl]
def Ymp{t:Nat}{A:Nat->Nat->Rat}(h:t<n):de n (bm A t fun _=>0)=0:=by
 have:=Sw (x:=0) (y:=0) (a:=fun _=>0) (b:=fun _=>0) (A:=A) h;have e:de n (bm A t fun _=>0)=de n (bm A t fun _=>(0:Rat)*0+0*0):=zm fun r u _ _=>by
  unfold bm;split
  ·show (0:Rat)=0*0+0*0;grind
  rfl
 rw[e,this];grind
def YD{n j:Nat}{A:Nat->Nat->Rat}{c:Nat->Rat}{w:Nat->Nat->Rat}(hj:j<n):∀{k:Nat},de n (bm A j fun u=>sN (fun t=>c t*w t u) k)=sN (fun t=>c t*de n (bm A j (w t))) k
 |0=>Ymp hj
 |k+1=>by
  have:=Sw (x:=1) (y:=c k) (a:=fun u=>sN (fun t=>c t*w t u) k) (b:=w k) (A:=A) hj
  rw[Rat.one_mul,YD hj]at this
  unfold sN
  rw[<-this]
  exact zm fun r u _ _=>by
   unfold bm
   split
   ·show _=1*_+_
    rw[Rat.one_mul]
   ·rfl
def CJ(l u:Nat):Rat:=if u=l then 1 else 0
def Ymq{A:Nat->Nat->Rat}{v:Nat->Rat}(hj:j<n):de n (bm A j v)=sN (fun l=>v l*de n (bm A j (CJ l))) n:=by
 rw[<-YD hj];apply zm;intro r u _ hu;unfold bm;split
 ·show v u=sN (fun t=>v t*CJ t u) n;rw[tU (i:=u) hu]
  ·unfold CJ;rw[ar rfl,Rat.mul_one]
  intro l _ aW;unfold CJ;rw[ak (Ne.symm aW),Rat.mul_zero]
 rfl
def Yab{π:Rat}:∀{n:Nat} {A:Nat->Nat->Rat},(∀u,u<n->A n u=0)->A n n=π->de (n+1) A=π*de n A
 |0,A,_,h=>by
  simp only[de,sN,h,jk]
  grind
 |n+1,A,hz,h=>by
  rw[de]
  have e:∀i,i<n+1+1->jk i*(A i 0*de (n+1) (fun r u=>A (mH i r) (u+1)))=if i<n+1 then π*(jk i*(A i 0*de n (fun r u=>A (mH i r) (u+1)))) else 0:=fun i hi=>by
   by_cases c:i<n+1
   ·rw[ar c,Yab (n:=n) (π:=π) (fun u hu=>?_) ?_]
    ·grind
    ·simp only[mH]
     rw[ak (by omega)]
     exact h
    ·simp only[mH]
     rw[ak (by omega)]
     exact hz _ (by omega)
   ·obtain rfl:i=n+1:=by omega
    rw[ak c,hz 0 (by omega),Rat.zero_mul,Rat.mul_zero]
  rw[bg e]
  show sN _ (n+1)+(if n+1<n+1 then π*(jk (n+1)*(A (n+1) 0*de n (fun r u=>A (mH (n+1) r) (u+1)))) else 0)=_
  rw[ak (by omega),Rat.add_zero,de,<-fM]
  apply bg
  intro i hi
  rw[ar hi]
def cJ(b:Nat)(q:Rat):Prop:=∃z:Int,q=(z:Rat)/\z.natAbs<2^b
def cJ.mul{a:Nat}{p q:Rat}(hp:cJ a p)(hq:cJ b q):cJ (a+b) (p*q):=by obtain⟨x,rfl,hx⟩:=hp;obtain⟨y,rfl,hy⟩:=hq;refine⟨x*y,by rw[Rat.intCast_mul],?_⟩;rw[ye,mr];exact CK hx hy
def cJ.neg{q:Rat}(hq:cJ b q):cJ b (-q):=by obtain⟨y,rfl,hy⟩:=hq;exact⟨-y,by rw[Rat.intCast_neg],by rw[CE];exact hy⟩
def cJ.sum{b:Nat}{f:Nat->Rat}:∀{n:Nat},(∀i,i<n->cJ b (f i))->∃z:Int,sN f n=(z:Rat)/\z.natAbs<=n*2^b
 |0,_=>⟨0,rfl,by simp⟩
 |n+1,h=>by
  obtain⟨z,h1,h2⟩:=cJ.sum (n:=n) fun i hi=>h i (by omega)
  obtain⟨y,h3,h4⟩:=h n (by omega)
  refine⟨z+y,by unfold sN;rw[h1,h3,Rat.intCast_add],?_⟩
  have:=Int.natAbs_add_le z y
  rw[ji]
  omega
def cJ.Ij{m:Nat}{f:Nat->Rat}(h:∀i,i<n->cJ b (f i))(hn:n<2^m):cJ (b+m) (sN f n):=by obtain⟨z,h1,h2⟩:=cJ.sum h;refine⟨z,h1,po h2 ?_⟩;rw[Nat.add_comm,mr];exact K7 hn (rV b)
def cJ.mono{a:Nat}{q:Rat}(h:cJ a q)(fX:a<=b):cJ b q:=by obtain⟨z,h1,h2⟩:=h;exact⟨z,h1,fm h2 (qW (by decide) fX)⟩
def cJ.jk:cJ 1 (jk i):=by
 unfold Go.Mx.jk;split
 ·exact⟨1,rfl,by decide⟩
 exact⟨-1,rfl,by decide⟩
def YE{b:Nat}:∀{n:Nat} {A:Nat->Nat->Rat},(∀r u,r<n->u<n->cJ b (A r u))->cJ (n*(b+n+1)+1) (de n A)
 |0,_,_=>⟨1,rfl,by rw[Nat.zero_mul];decide⟩
 |n+1,A,h=>by
  unfold de
  have e:∀i,i<n+1->cJ (1+(b+(n*(b+n+1)+1))) (jk i*(A i 0*de n (fun r u=>A (mH i r) (u+1)))):=fun i hi=>cJ.jk.mul ((h i 0 hi (by omega)).mul (YE fun r u hr hu=>h _ _ (by unfold mH;split<;>omega) (by omega)))
  have:=cJ.Ij (m:=n+1) e Nat.lt_two_pow_self
  refine this.mono ?_
  have:(n+1)*(b+(n+1)+1)=n*(b+n+1)+n+(b+n+2):=by grind
  omega
variable {Bs m:List (List Rat)} {R d n:Nat} {b k s v x y:Rat}
def Ab(m:List (List Rat))(c R:Nat):Prop:=∀i,i<m.length->∃s:Rat,s≠0/\cJ R s/\∀l,l<c->cJ R (s*al m i l)
def cJ.qb{b:Nat}{q D:Rat}(h0:D≠0)(hD:cJ b D)(hq:cJ b (D*q)):Qb b q:=by
 obtain⟨x,rfl,hx⟩:=hD;obtain⟨y,h1,hy⟩:=hq;have fK:x≠0:=fun h=>h0 (by rw[h];rfl);have e:q=Rat.divInt y x:=by rw[Rat.divInt_eq_div,<-h1,Rat.div_def];have:=Rat.mul_inv_cancel (x:Rat) h0;grind
 rw[e];exact YF fK hy hx
def F4{K:Nat}:∀{r:List Rat},(∀q∈r,Qb K q)->∃s:Rat,s≠0/\cJ (r.length*K+1) s/\∀q∈r,cJ (r.length*K+1) (s*q)
 |[],_=>⟨1,by decide,⟨1,rfl,by rw[List.length_nil,Nat.zero_mul];decide⟩,fun q hq=>by simp at hq⟩
 |p::t,h=>by
  obtain⟨s,h1,h2,h3⟩:=F4 (r:=t) fun q hq=>h q (qz _ hq)
  have hp:=h p qQ
  have hd:cJ K ((p.den:Int):Rat):=⟨_,rfl,by rw[eh];exact hp.2⟩
  have hn:cJ K ((p.num:Int):Rat):=⟨_,rfl,hp.1⟩
  have qf:((p.den:Int):Rat)≠0:=fun hc=>p.den_nz (by have:=Rat.intCast_inj.1 (hc.trans (by rfl:(0:Rat)=((0:Int):Rat)));omega)
  have e:((p.den:Int):Rat)*p=(p.num:Rat):=by
   have h1:=AO p
   rw[Rat.divInt_eq_div,Rat.div_def]at h1
   have h2:=Rat.mul_inv_cancel _ qf
   conv=>lhs;arg 2;rw[<-h1]
   generalize ((p.den:Int):Rat)=x at*
   grind
  have ek:(t.length+1)*K+1=t.length*K+1+K:=by grind
  refine⟨s*((p.den:Int):Rat),fun hc=>?_,?_,fun q hq=>?_⟩
  ·rcases Rat.mul_eq_zero.1 hc with h|h
   ·exact h1 h
   ·exact qf h
  ·rw[bk,ek]
   exact h2.mul hd
  ·rw[bk,ek]
   rcases iW.1 hq with rfl|hq
   ·have:=h2.mul hn
    rw[<-e]at this
    rw[Rat.mul_assoc]
    exact this
   ·have:=(h3 q hq).mul hd
    rw[show s*((p.den:Int):Rat)*q=s*q*((p.den:Int):Rat) by grind]
    exact this
def cJ.zero{b:Nat}:cJ b 0:=⟨0,rfl,by rw[Int.natAbs_zero];exact rV b⟩
def Nv{c K:Nat}(h:bz m K)(hc:aR m c):Ab m c (c*K+1):=fun i hi=>by
 obtain⟨s,h1,h2,h3⟩:=F4 (h.at (i:=i))
 rw[hc.at hi]at h2 h3
 refine⟨s,h1,h2,fun l hl=>?_⟩
 unfold al
 rw[bV (by rw[hc.at hi];exact hl)]
 exact h3 _ (List.getElem_mem _)
structure CL (Bs M:List (List Rat)) (s:Nat->Rat) (d:Nat) (ps:List Nat) (c R:Nat):Prop where
 len:Bs.length=M.length
 int:∀i l,i<M.length->l<c->cJ R (al Bs i l)
 sc:∀i,i<M.length->s i≠0/\cJ R (s i)
 low:∀i l,d<=i->i<M.length->l<c->s i*al M i l=al Bs i l-sN (fun j=>al Bs i (ps[j]?.getD 0)*al M j l) d
 top:∃T:Nat->Nat->Rat,∀j l,j<d->l<c->al M j l=sN (fun t=>T j t*al Bs t l) d
 ne:de d (fun t u=>al Bs t (ps[u]?.getD 0))≠0
def Ysx{c:Nat}(h:Ab m c R)(hc:aR m c):∃Bs s,CL Bs m s 0 [] c R:=by
 have hex:∀i,∃s:Rat,i<m.length->s≠0/\cJ R s/\∀l,l<c->cJ R (s*al m i l):=fun i=>by
  by_cases hi:i<m.length
  ·obtain⟨s,hs⟩:=h i hi;exact⟨s,fun _=>hs⟩
  exact⟨0,fun hc=>absurd hc hi⟩
 obtain⟨s,hs⟩:=Classical.axiomOfChoice hex;have wz:∀i l,i<m.length->l<c->al ((List.range m.length).map fun i=>(m[i]?.getD []).map fun q=>s i*q) i l=s i*al m i l:=fun i l hi hl=>by have hlen:=hc.at hi;unfold al;rw[eG,AK hi];simp only[qc,g_,eG];rw[bV (by omega)];rfl
 refine⟨(List.range m.length).map fun i=>(m[i]?.getD []).map fun q=>s i*q,s,(cG _).trans List.length_range,fun i l hi hl=>?_,fun i hi=>⟨(hs i hi).1,(hs i hi).2.1⟩,fun i l _ hi hl=>?_,⟨fun _ _=>0,fun j _ hj=>absurd hj (Nat.not_lt_zero j)⟩,fun hc=>absurd (show (1:Rat)=0 from hc) (by decide)⟩
 ·rw[wz i l hi hl];exact(hs i hi).2.2 l hl
 rw[wz i l hi hl];show _=_-(0:Rat);grind
def al1:b=b-s+s:=by grind
def al2{p m:Rat}(h:b=p*m+s):k*p*m= -k*s+k*b:=by grind
def al3{c e f:Rat}(h1:s*x=b-e)(h2:s*y=c-f):s*(x-y*v)=b-(e+ -v*f+c*v):=by grind
def al4:b*(x-y*v)=b*x+ -v*(b*y):=by grind
def al5{t:Rat}:(t-y*x)*b=t*b+ -y*(x*b):=by grind
def al6{u:Rat}(h:v=u+k*b):s-y*v=s+ -y*u+(0-y*k)*b:=by grind
def al7{a i m:Rat}(h1:s*a*k=1)(h2:a*i=1):m*i=k*s*m:=by
 have:m*i=m*i*(s*a*k):=by rw[h1,Rat.mul_one]
 rw[this,show m*i*(s*a*k)=k*s*m*(a*i) by grind,h2,Rat.mul_one]
def CL.step{s:Nat->Rat}{S:List (List Rat)×Nat×List Nat}{c:Nat}(h:CL Bs S.1 s S.2.1 S.2.2 c R)(I:ym S.1 S.2.1 S.2.2 n)(hc:aR S.1 c)(hn:n<c):∃YG s',CL YG (iE S n).1 s' (iE S n).2.1 (iE S n).2.2 c R:=by
 obtain⟨M,d,ps⟩:=S;simp only at h I hc;unfold iE;simp only;have hle:=@FR M n (M.length-d) d;have ka:=I.le;split
 ·rename_i hp;have dX:d<M.length:=by unfold eZ at hp;omega
  have Nw:d<=eZ M d n:=hle.1;have aW:al M (eZ M d n) n≠0:=@HU M n (M.length-d) d (by unfold eZ at hp;omega);generalize eZ M d n=p at*;have jI:=(hc.DI dX hp).KV (d:=d) (k:=n) (by rw[pZ];exact dX);have hlen:(df (gJ (cr M d p) d n) d n M.length).length=M.length:=by rw[CC,CD,pZ]
  have il:(gJ (cr M d p) d n).length=M.length:=by rw[CD,pZ]
  have hb:∀i j,al (cr M d p) i j=if i=d then al M p j else if i=p then al M d j else al M i j:=fun i j=>HX dX hp
  have hs:∀i j,al (gJ (cr M d p) d n) i j=if i=d then al M p j/al M p n else al (cr M d p) i j:=fun i j=>by rw[Sj (by rw[pZ];exact dX),hb d j,hb d n,ar rfl,ar rfl]
  have he:∀i j,i<M.length->al (df (gJ (cr M d p) d n) d n M.length) i j=if i=d then al M p j/al M p n else al (cr M d p) i j-al (cr M d p) i n*(al M p j/al M p n):=fun i j hi=>by have:=Sk (m:=gJ (cr M d p) d n) (k:=n) (j:=j) jI (i:=i) (d:=d) (by rw[il];exact hi) (by rw[il];exact dX);rw[il]at this;rw[this,hs i j,hs i n,hs d j,ar rfl];split<;>rfl
  have Ik:∀i j,al (cr Bs d p) i j=if i=d then al Bs p j else if i=p then al Bs d j else al Bs i j:=fun i j=>HX (by rw[h.len];exact dX) (by rw[h.len];exact hp)
  show ∃YG s',CL YG (df (gJ (cr M d p) d n) d n M.length) s' (d+1) (ps++[n]) c R;generalize df (gJ (cr M d p) d n) d n M.length=M' at*;obtain⟨T,hT⟩:=h.top;have ho:∀i,i<d->(ps++[n])[i]?.getD 0=ps[i]?.getD 0:=fun i hi=>by rw[mj (by have:=I.len;omega)]
  have tV:(ps++[n])[d]?.getD 0=n:=by rw[pY (by have:=I.len;omega),I.len];simp
  have iK:=(h.sc p hp).1;obtain⟨x,hx⟩:∃x:Nat->Rat,x=fun l=>al M p l/al M p n:=⟨_,rfl⟩;have mq:∀l,x l=al M p l/al M p n:=fun l=>by rw[hx]
  have hMd:∀l,al M' d l=x l:=fun l=>by rw[he d l dX,ar rfl,mq]
  have hMj:∀j l,j<d->al M' j l=al M j l-al M j n*x l:=fun j l hj=>by rw[he j l (by omega),ak (by omega),hb j l,hb j n,ak (by omega),ak (by omega),ak (by omega),ak (by omega),mq]
  have Sz:∀t l,t<d->al (cr Bs d p) t l=al Bs t l:=fun t l ht=>by rw[Ik,ak (by omega),ak (by omega)]
  have hBd:∀l,al (cr Bs d p) d l=al Bs p l:=fun l=>by rw[Ik,ar rfl]
  have jA:∀j,j<d->ps[j]?.getD 0<c:=fun j hj=>by have:=I.lt j hj;omega
  obtain⟨Z,hZ⟩:∃Z:Nat->Rat,Z=fun t=>sN (fun j=>al Bs p (ps[j]?.getD 0)*T j t) d:=⟨_,rfl⟩;have wA:∀l,l<c->sN (fun j=>al Bs p (ps[j]?.getD 0)*al M j l) d=sN (fun t=>Z t*al Bs t l) d:=fun l hl=>by rw[bg (g:=fun j=>sN (fun t=>al Bs p (ps[j]?.getD 0)*T j t*al Bs t l) d) fun j hj=>by rw[hT j l hj hl,<-fM];exact bg fun t _=>(Rat.mul_assoc _ _ _).symm,zh];apply bg;intro t _;rw[hZ,Rat.mul_comm,<-fM];exact bg fun j _=>Rat.mul_comm _ _
  have az:∀l,l<c->al Bs p l=s p*al M p l+sN (fun t=>Z t*al Bs t l) d:=fun l hl=>by rw[<-wA l hl,h.low p l Nw hp hl];exact al1
  have e1:s p*al M p n≠0:=fun hc=>by
   rcases Rat.mul_eq_zero.1 hc with h|h
   ·exact iK h
   exact aW h
  obtain⟨κ,hκ⟩:∃κ:Rat,s p*al M p n*κ=1:=⟨_,Rat.mul_inv_cancel _ e1⟩;have zn:∀l,x l=κ*s p*al M p l:=fun l=>by rw[mq,Rat.div_def];exact al7 hκ (Rat.mul_inv_cancel _ aW)
  have zo:∀l,l<c->x l=sN (fun t=>(if t=d then κ else -κ*Z t)*al (cr Bs d p) t l) (d+1):=fun l hl=>by show _=sN (fun t=>(if t=d then κ else -κ*Z t)*al (cr Bs d p) t l) d+(if d=d then κ else -κ*Z d)*al (cr Bs d p) d l;rw[ar rfl,hBd,bg (g:=fun t=> -κ*(Z t*al Bs t l)) fun t ht=>by rw[ak (by omega),Sz t l ht,Rat.mul_assoc],fM,zn];exact al2 (az l hl)
  refine⟨cr Bs d p,fun i=>if i=d then s p else if i=p then s d else s i,by rw[pZ,hlen,h.len],fun i l hi hl=>?_,fun i hi=>?_,fun i l h1 h2 hl=>?_,⟨fun j t=>if j=d then (if t=d then κ else -κ*Z t) else (if t=d then 0 else T j t)-al M j n*(if t=d then κ else -κ*Z t),fun j l hj hl=>?_⟩,?_⟩
  ·rw[hlen]at hi;rw[Ik];split
   ·exact h.int p l hp hl
   split
   ·exact h.int d l dX hl
   exact h.int i l hi hl
  ·rw[hlen]at hi;split
   ·exact h.sc p hp
   split
   ·exact h.sc d dX
   exact h.sc i hi
  ·rw[hlen]at h2;have DJ:∀l,l<c->(if i=d then s p else if i=p then s d else s i)*al (cr M d p) i l=al (cr Bs d p) i l-sN (fun j=>al (cr Bs d p) i (ps[j]?.getD 0)*al M j l) d:=fun l hl=>by
    by_cases e:i=p
    ·have K8:∀l,al (cr Bs d p) i l=al Bs d l:=fun l=>by rw[Ik,ak (by omega),ar e]
     rw[ak (by omega),ar e,hb,ak (by omega),ar e,K8,bg (g:=fun j=>al Bs d (ps[j]?.getD 0)*al M j l) fun j _=>by rw[K8]];exact h.low d l (aO _) dX hl
    have K8:∀l,al (cr Bs d p) i l=al Bs i l:=fun l=>by rw[Ik,ak (by omega),ak e]
    rw[ak (by omega),ak e,hb,ak (by omega),ak e,K8,bg (g:=fun j=>al Bs i (ps[j]?.getD 0)*al M j l) fun j _=>by rw[K8]];exact h.low i l (by omega) h2 hl
   have hM:al M' i l=al (cr M d p) i l-al (cr M d p) i n*x l:=by rw[he i l h2,ak (show ¬i=d by omega),<-mq l]
   rw[hM];show (if i=d then s p else if i=p then s d else s i)*_=_-(sN (fun j=>al (cr Bs d p) i ((ps++[n])[j]?.getD 0)*al M' j l) d+al (cr Bs d p) i ((ps++[n])[d]?.getD 0)*al M' d l);rw[tV,hMd,bg (g:=fun j=>al (cr Bs d p) i (ps[j]?.getD 0)*al M j l+ -x l*(al (cr Bs d p) i (ps[j]?.getD 0)*al M j n)) fun j hj=>by rw[ho j hj,hMj j l hj];exact al4,zg,fM];exact al3 (DJ l hl) (DJ n hn)
  ·have hX:=zo l hl;by_cases e:j=d
   ·subst e;rw[hMd,hX];exact bg fun t _=>by show _=(if j=j then (if t=j then κ else -κ*Z t) else (if t=j then 0 else T j t)-al M j n*(if t=j then κ else -κ*Z t))*al (cr Bs j p) t l;rw[ar rfl]
   have hX:x l=sN (fun t=>(if t=d then κ else -κ*Z t)*al (cr Bs d p) t l) d+(if d=d then κ else -κ*Z d)*al (cr Bs d p) d l:=hX;rw[ar rfl]at hX;rw[hMj j l (by omega),hT j l (by omega) hl];show _=sN (fun t=>(if j=d then (if t=d then κ else -κ*Z t) else (if t=d then 0 else T j t)-al M j n*(if t=d then κ else -κ*Z t))*al (cr Bs d p) t l) d+(if j=d then (if d=d then κ else -κ*Z d) else (if d=d then 0 else T j d)-al M j n*(if d=d then κ else -κ*Z d))*al (cr Bs d p) d l;rw[ak e,ar rfl,ar rfl,bg (f:=fun t=>(if j=d then (if t=d then κ else -κ*Z t) else (if t=d then 0 else T j t)-al M j n*(if t=d then κ else -κ*Z t))*al (cr Bs d p) t l) (g:=fun t=>T j t*al Bs t l+ -al M j n*((if t=d then κ else -κ*Z t)*al (cr Bs d p) t l)) fun t ht=>by rw[ak e,ak (show ¬t=d by omega),ak (show ¬t=d by omega),Sz t l ht];exact al5,zg,fM];exact al6 hX
  have e1:de (d+1) (fun t u=>al (cr Bs d p) t ((ps++[n])[u]?.getD 0))=de (d+1) (bm (fun t u=>al (cr Bs d p) t ((ps++[n])[u]?.getD 0)) d fun u=>s p*al M p ((ps++[n])[u]?.getD 0)+sN (fun t=>Z t*al (cr Bs d p) t ((ps++[n])[u]?.getD 0)) d):=zm fun r u hr hu=>by
   unfold bm;split
   ·rename_i e;subst e;have vD:(ps++[n])[u]?.getD 0<c:=by
     by_cases e:u<r
     ·rw[ho u e];exact jA u e
     rw[show u=r by omega,tV];exact hn
    simp only;rw[hBd,az _ vD];congr 1;exact bg fun t ht=>by rw[Sz t _ ht]
   rfl
  rw[e1,Sy (by omega),YD (w:=fun t u=>al (cr Bs d p) t ((ps++[n])[u]?.getD 0)) (by omega),pj (f:=fun t=>_) fun t ht=>by have:=Yh4 (n:=d+1) (A:=fun t u=>al (cr Bs d p) t ((ps++[n])[u]?.getD 0)) (i:=t) (j:=d) (by omega) (by omega);rw[this,ak (by omega),Rat.mul_zero],Rat.add_zero,Yab (π:=s p*al M p n) (fun u hu=>?_) ?_]
  ·intro hc;rcases Rat.mul_eq_zero.1 hc with h1|h1
   ·rcases Rat.mul_eq_zero.1 h1 with h|h
    ·exact iK h
    exact aW h
   apply h.ne;rw[<-h1];exact zm fun r u hr hu=>by unfold bm;rw[ak (by omega)];show _=al (cr Bs d p) r ((ps++[n])[u]?.getD 0);rw[Sz r _ hr,ho u hu]
  ·unfold bm;rw[ar rfl];show s p*al M p ((ps++[n])[d]?.getD 0)=_;rw[tV]
  unfold bm;rw[ar rfl];show s p*al M p ((ps++[n])[u]?.getD 0)=0;rw[ho u hu,I.rest p _ Nw hp (I.lt u hu),Rat.mul_zero]
 exact⟨Bs,s,h⟩
def Nx{m:List (List Rat)}{c R:Nat}(h:Ab m c R)(hc:aR m c):∀{n:Nat},n<=c->∃Bs s,CL Bs (aF m n).1 s (aF m n).2.1 (aF m n).2.2 c R
 |0,_=>Ysx h hc
 |n+1,hn=>by
  obtain⟨Bs,s,hC⟩:=Nx h hc (n:=n) (by omega)
  rw[wg]
  exact hC.step (mE hc) (nR hc).1 (by omega)
def CL.done{M:List (List Rat)}{s:Nat->Rat}{c:Nat}{ps:List Nat}(h:CL Bs M s d ps c R)(I:ym M d ps n)(hn:n<=c)(hR:1<=R):cJ (d*(R+d+1)+1) (de d fun t u=>al Bs t (ps[u]?.getD 0))/\∀j l,j<d->l<c->cJ ((d+1)*(R+d+1)) ((de d fun t u=>al Bs t (ps[u]?.getD 0))*al M j l):=by
 have hle:=I.le;have jA:∀j,j<d->ps[j]?.getD 0<c:=fun j hj=>by have:=I.lt j hj;omega
 have hI:∀r u,r<d->u<d->cJ R (al Bs r (ps[u]?.getD 0)):=fun r u hr hu=>h.int r _ (by omega) (jA u hu);refine⟨YE hI,fun j l hj hl=>?_⟩;obtain⟨T,hT⟩:=h.top;have YH:∀t q,t<d->q<d->sN (fun u=>al Bs t (ps[u]?.getD 0)*de d (bm (fun t u=>al Bs t (ps[u]?.getD 0)) q (CJ u))) d=if t=q then de d (fun t u=>al Bs t (ps[u]?.getD 0)) else 0:=fun t q ht hq=>by rw[<-Yh4 ht hq];exact(Ymq hq).symm
 have hTd:∀q,q<d->de d (bm (fun t u=>al Bs t (ps[u]?.getD 0)) q (CJ j))=T j q*de d (fun t u=>al Bs t (ps[u]?.getD 0)):=fun q hq=>by
  have e1:de d (bm (fun t u=>al Bs t (ps[u]?.getD 0)) q (CJ j))=sN (fun u=>al M j (ps[u]?.getD 0)*de d (bm (fun t u=>al Bs t (ps[u]?.getD 0)) q (CJ u))) d:=by rw[tU (i:=j) hj fun u hu aW=>by rw[I.one u j hu (by omega),ak (Ne.symm aW),Rat.zero_mul],I.one j j hj (by omega),ar rfl,Rat.one_mul]
  rw[e1,bg (g:=fun u=>sN (fun t=>T j t*(al Bs t (ps[u]?.getD 0)*de d (bm (fun t u=>al Bs t (ps[u]?.getD 0)) q (CJ u)))) d) fun u hu=>by rw[hT j _ hj (jA u hu),Rat.mul_comm,<-fM];exact bg fun t _=>by grind,zh,bg (g:=fun t=>T j t*if t=q then de d (fun t u=>al Bs t (ps[u]?.getD 0)) else 0) fun t ht=>by rw[fM,YH t q ht hq],tU (i:=q) hq fun t _ aW=>by rw[ak aW,Rat.mul_zero],ar rfl]
 rw[hT j l hj hl,<-fM];have:=cJ.Ij (m:=d) (b:=d*(R+d+1)+1+R) (n:=d) (f:=fun t=>de d (fun t u=>al Bs t (ps[u]?.getD 0))*(T j t*al Bs t l)) (fun t ht=>by
  rw[show de d (fun t u=>al Bs t (ps[u]?.getD 0))*(T j t*al Bs t l)=T j t*de d (fun t u=>al Bs t (ps[u]?.getD 0))*al Bs t l by grind,<-hTd t ht]
  refine(YE fun r u hr hu=>?_).mul (h.int t l (by omega) hl)
  unfold bm
  split
  ·unfold CJ
   split
   ·exact⟨1,rfl,fm (by decide:Int.natAbs 1<2^1) (qW (by decide) hR)⟩
   ·exact cJ.zero
  ·exact hI r u hr hu) Nat.lt_two_pow_self;refine this.mono ?_;have:(d+1)*(R+d+1)=d*(R+d+1)+(R+d+1):=by grind
 omega
def cJ.sub{b:Nat}{p q:Rat}(hp:cJ b p)(hq:cJ b q):cJ (b+1) (p-q):=by obtain⟨x,rfl,hx⟩:=hp;obtain⟨y,rfl,hy⟩:=hq;refine⟨x-y,by rw[Rat.intCast_sub],?_⟩;rw[ix];omega
def qZ(R d:Nat):Nat:=(d+2)*(R+d+1)
def CL.qb{M:List (List Rat)}{s:Nat->Rat}{c:Nat}{ps:List Nat}(h:CL Bs M s d ps c R)(I:ym M d ps n)(hc:aR M c)(hn:n<=c)(hR:1<=R):bz M (qZ R d):=fun r hr q hq=>by
 obtain⟨h1,h2⟩:=h.done I hn hR
 have hB:qZ R d=d*(R+d+1)+2*R+2*d+2:=by unfold qZ;grind
 have hW:(d+1)*(R+d+1)=d*(R+d+1)+(R+d+1):=by grind
 obtain⟨i,hi⟩:=nw hr
 obtain⟨l,hl⟩:=nw hq
 have vz:=gZ hi
 have nW:l<c:=by have:=gZ hl;rw[hc r hr]at this;exact this
 have wz:al M i l=q:=by unfold al;rw[hi,g_,hl];rfl
 by_cases e:i<d
 ·have:=h2 i l e nW
  rw[wz]at this
  exact cJ.qb h.ne (h1.mono (by omega)) (this.mono (by omega))
 ·have Il:=h.low i l (by omega) vz nW
  have hs:=h.sc i vz
  have jA:∀j,j<d->ps[j]?.getD 0<c:=fun j hj=>by have:=I.lt j hj;omega
  rw[wz]at Il
  refine cJ.qb (D:=s i*de d fun t u=>al Bs t (ps[u]?.getD 0)) (fun hc=>?_) ((hs.2.mul h1).mono (by omega)) ?_
  ·rcases Rat.mul_eq_zero.1 hc with h'|h'
   ·exact hs.1 h'
   ·exact h.ne h'
  ·have e1:(s i*de d fun t u=>al Bs t (ps[u]?.getD 0))*q=al Bs i l*(de d fun t u=>al Bs t (ps[u]?.getD 0))-sN (fun j=>al Bs i (ps[j]?.getD 0)*((de d fun t u=>al Bs t (ps[u]?.getD 0))*al M j l)) d:=by
    rw[bg (g:=fun j=>(de d fun t u=>al Bs t (ps[u]?.getD 0))*(al Bs i (ps[j]?.getD 0)*al M j l)) fun j _=>by grind,fM]
    grind
   rw[e1]
   have a1:=((h.int i l vz nW).mul h1).mono (b:=R+(d+1)*(R+d+1)+d) (by omega)
   have a2:=cJ.Ij (m:=d) (b:=R+(d+1)*(R+d+1)) (n:=d) (f:=fun j=>al Bs i (ps[j]?.getD 0)*((de d fun t u=>al Bs t (ps[u]?.getD 0))*al M j l)) (fun j hj=>(h.int i _ vz (jA j hj)).mul (h2 j l hj nW)) Nat.lt_two_pow_self
   exact(a1.sub a2).mono (by omega)
def Zpr{m:List (List Rat)}{c:Nat}(hc:aR m c):∀{e:Nat},aF m (c+e)=aF m c
 |0=>rfl
 |e+1=>by
  rw[<-qe,wg,Zpr hc]
  obtain⟨M,hM⟩:∃M,M=aF m c:=⟨_,rfl⟩
  have hr:=(nR hc (n:=c)).1
  rw[<-hM]at hr ⊢
  have hz:∀i,al M.1 i (c+e)=0:=fun i=>by
   unfold al
   by_cases hi:i<M.1.length
   ·have h3:=hr.at hi
    rw[fW (l:=M.1[i]?.getD []) (by omega)];rfl
   ·have h3:M.1[i]?=none:=fW (by omega)
    rw[h3];rfl
  unfold iE
  rw[ak]
  intro hp
  have hle:=@FR M.1 (c+e) (M.1.length-M.2.1) M.2.1
  exact(@HU M.1 (c+e) (M.1.length-M.2.1) M.2.1 (by unfold eZ at hp;omega)) (hz _)
def Ny{c:Nat}(h:Ab m c R)(hc:aR m c)(hR:1<=R)(n:Nat):bz (aF m n).1 (qZ R (aF m n).2.1):=by
 by_cases hn:n<=c
 ·obtain⟨Bs,s,hC⟩:=Nx h hc hn;exact hC.qb (mE hc) (nR hc).1 hn hR
 rw[show n=c+(n-c) by omega,Zpr hc];obtain⟨Bs,s,hC⟩:=Nx h hc (aO c);exact hC.qb (mE hc) (nR hc).1 (aO c) hR
def K9{R a b:Nat}(h:a<=b):qZ R a<=qZ R b:=nC (by omega) (by omega)
def YI:1<=qZ R d:=z_ (by omega) (by omega)
end Go.Mx
