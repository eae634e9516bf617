/-Long division by words-/
import Derived.Test.YtlbnjhhebffhdaaGreatDoorNaP
set_option linter.all false
namespace Go.Mx
noncomputable section
open Go
variable {P Y a b d k u v1:Nat} {l:List Nat}
def Bm(h:l[k]?=some d):val b (l.drop k)=d+b*val b (l.drop (k+1)):=by
 have hk:k<l.length:=by
  apply Yxf;intro hc;rw[kc hc]at h;cases h
 rw[IC hk]
 rw[Yv8 hk]at h
 simp only[au]at h
 rw[h];rfl
def Eo(b:Nat)(l:List Nat)(k:Nat)(hk:k<=l.length):val b l=val b (l.take k)+b^k*val b (l.drop k):=by
 have:=Ue b (l.take k) (l.drop k)
 rw[AO,j9,oW hk]at this
 exact this
def Zwh{b:Nat}:∀{l:List Nat},(∀(t:Nat),t<l.length->l[t]?=some 0)->val b l=0
 |[],_=>rfl
 |d::l,h=>by
  have h0:=h 0 (by simp)
  simp at h0
  have:=Zwh (b:=b) (l:=l) fun t ht=>by simpa using h (t+1) (by simp;omega)
  simp[val,h0,this]
def Yq1{α:Type}{l:List α}{d:α}(h:l[k]?=some d):k<l.length:=by
 apply Yxf;intro hc;rw[kc hc]at h;cases h
def Zgc(hz:∀t,k<=t->t<l.length->l[t]?=some 0):val b (l.drop k)=0:=by
 apply Zwh
 intro t ht
 rw[gH]
 rw[AQ]at ht
 exact hz _ (by omega) (by omega)
def Ygv{w:List Nat}{c:Nat}(ha:w[k]?=some a)(hc:w[k+1]?=some c)(hd:w[k+2]?=some d)(hz:∀t,k+3<=t->t<w.length->w[t]?=some 0):
  val b w=val b (w.take k)+b^k*(a+b*(d*b+c)):=by
 have:=Yq1 ha
 rw[Eo b w k (by omega),Bm ha,Bm hc,Bm hd,Zgc hz]
 generalize b^k=p
 grind
def Ygw{w:List Nat}{c:Nat}(ha:w[k]?=some a)(hc:w[k+1]?=some c)(hl:w.length=k+2):
  val b w=val b (w.take k)+b^k*(a+b*c):=by
 rw[Eo b w k (by omega),Bm ha,Bm hc,zd (by omega)]
 simp[val]
def Zm6(g:∀d∈l,d<b)(hk:k<=l.length):val b (l.take k)<b^k:=by
 have:=Em (b:=b) (l:=l.take k) fun d hd=>g d (BR hd)
 rwa [j9,oW hk]at this
def Yq3{c U' v2 V':Nat}(hP:0<P)(Cc:V'<P)(ix:v2<b)(hd:v1<=d)(hW:U'+P*(a+b*(d*b+c))<b*(V'+P*(v2+b*v1))):d=v1:=by
 apply Nat.le_antisymm _ hd
 apply vD
 intro aW
 have h1:b*(P*(b*(v1+1)))<=b*(P*(b*d)):=jh _ (jh _ (jh _ aW))
 have h2:V'+P*(v2+b*v1)<P*(b*(v1+1)):=by
  have:P*(v2+1)<=P*b:=jh _ ix
  grind
 have h3:b*(V'+P*(v2+b*v1))<=b*(P*(b*(v1+1))):=jh _ (Nat.le_of_lt h2)
 have h4:b*(P*(b*d))<=U'+P*(a+b*(d*b+c)):=by
  have:P*(b*(d*b))=b*(P*(b*d)):=by grind
  have:P*(b*(d*b))<=P*(a+b*(d*b+c)):=jh _ (by rw[rX];omega)
  omega
 omega
def Yq4{U' u2 u1 v2 V' q r:Nat}(hU:U'<P)(fi:u2<b)(hinv:u1=q*v1+r)(hr:r<v1):U'+P*(u2+b*u1)<(q+1)*(V'+P*(v2+b*v1)):=by
 have h1:u1+1<=(q+1)*v1:=by rw[hinv,ku];omega
 have h2:P*(b*(u1+1))<=P*(b*((q+1)*v1)):=jh _ (jh _ h1)
 have h3:P*(u2+1)<=P*b:=jh _ fi
 have h4:P*(b*((q+1)*v1))<=(q+1)*(V'+P*(v2+b*v1)):=by
  have:(q+1)*(V'+P*(v2+b*v1))=(q+1)*V'+P*((q+1)*v2)+P*(b*((q+1)*v1)):=by grind
  omega
 have h5:U'+P*(u2+b*u1)+P<=U'+P*(b*(u1+1)):=by grind
 omega
def uV(q v c:Nat):Nat:=bJ (bJ (q*v)+c)
def nS(q v c:Nat):Nat:=cW (cG (q*v)) (cG (bJ (q*v)+c))
def Ym5{q v c w:Nat}(hq:q<B)(hv:v<B)(hc:c<B)(hu:u<B)(hw:w<=1):
  eG u (uV q v c) w+q*v+c+w=u+B*(nS q v c+fG u (uV q v c) w)/\eG u (uV q v c) w<B/\nS q v c<B/\fG u (uV q v c) w<=1/\uV q v c<B:=by
 have:q*v<=18446744073709551615*18446744073709551615:=tU (by unfold B at*;omega) (by unfold B at*;omega)
 unfold nS uV
 have h1:bJ (bJ (q*v)+c)+B*cW (cG (q*v)) (cG (bJ (q*v)+c))=q*v+c/\cW (cG (q*v)) (cG (bJ (q*v)+c))<B/\bJ (bJ (q*v)+c)<B:=by
  unfold bJ cG cW
  unfold B at*
  generalize q*v=p at*
  omega
 obtain⟨h1,h2,h3⟩:=h1
 generalize bJ (bJ (q*v)+c)=l at*
 generalize cW (cG (q*v)) (cG (bJ (q*v)+c))=k at*
 have h4:eG u l w+l+w=u+B*fG u l w/\eG u l w<B/\fG u l w<=1:=by
  unfold eG fG
  unfold B at*
  split<;>omega
 obtain⟨h4,h5,h6⟩:=h4
 refine⟨?_,h5,h2,h6,h3⟩
 rw[rX]
 omega
def Yl9{l w:Nat}(hl:l<B)(hu:u<B)(hw:w<=1):eG u l w+l+w=u+B*fG u l w/\eG u l w<B/\fG u l w<=1:=by
 unfold eG fG
 unfold B at*
 split<;>omega
def Ygj{v c:Nat}(hv:v<B)(hu:u<B)(hc:c<=1):bJ (u+v+c)+B*cG (u+v+c)=u+v+c/\bJ (u+v+c)<B/\cG (u+v+c)<=1:=by
 unfold bJ cG
 unfold B at*
 omega
def PV{b:Nat}:∀{l:List Nat} {k old v:Nat},l[k]?=some old->val b (l.set k v)+b^k*old=val b l+b^k*v
 |[],k,old,v,h=>by simp at h
 |d::l,0,old,v,h=>by simp at h;subst h;simp[val];omega
 |d::l,k+1,old,v,h=>by
  have ih:=PV (b:=b) (l:=l) (k:=k) (old:=old) (v:=v) (by simpa using h)
  simp only[List.set_cons_succ,val,fV]
  generalize val b (l.set k v)=p at*
  generalize val b l=q at*
  generalize b^k=z at*
  have:b*(p+z*old)=b*(q+z*v):=by rw[ih]
  grind
def Dg.sM(h:Dg l){k v:Nat}(hv:v<B):Dg (l.set k v):=by
 intro d hd
 rcases Aw hd with hd|hd
 ·exact h d hd
 ·subst hd;exact hv
def Yqx{W q U t c t' e:Nat}(hb:1<b)(hP:0<P)(hY:Y<P)(hU:U<P)(ht:t'<b)(he:e<=1)(h1:U+q*Y=W+P*c)(h2:t'+c=t+b*e)(fO:(q-1)*Y<=W+P*t)(iH:W+P*t<(q+1)*Y):
  (e=0->U+P*t'+q*Y=W+P*t/\U+P*t'<Y/\t'=0)/\(e=1->0<q/\U+P*t'+q*Y=W+P*t+P*b/\W+P*t<q*Y):=by
 have h3:P*t'+P*c=P*t+P*(b*e):=by rw[<-rX,h2,rX]
 constructor
 ·rintro rfl
  simp only[Nat.mul_zero,mY]at h3
  have h4:U+P*t'+q*Y=W+P*t:=by omega
  have h5:U+P*t'<Y:=by rw[ku]at iH;omega
  refine⟨h4,h5,?_⟩
  rcases NY t' with h|h
  ·exact h
  ·have:=jh P h
   omega
 ·rintro rfl
  simp only[wP]at h3
  have h4:U+P*t'+q*Y=W+P*t+P*b:=by omega
  have h5:P*(t'+1)<=P*b:=jh _ ht
  rw[rX]at h5
  have h6:W+P*t<q*Y:=by omega
  refine⟨?_,h4,h6⟩
  rcases NY q with h|h
  ·subst h;omega
  ·exact h
def Ynq{q U t' T A c:Nat}(hP:0<P)(hY:Y<P)(hA:A<P)(hc:c<=1)(ht:t'<b)(hq:0<q)(h1:U+P*t'+q*Y=T+P*b)(h2:T<q*Y)(fO:(q-1)*Y<=T)(h3:A+P*c=U+Y):
  A+(q-1)*Y=T/\A<Y/\(t'+c)%b=0:=by
 obtain⟨s,rfl⟩:∃s,q=s+1:=⟨q-1,by omega⟩
 simp only[Nat.add_sub_cancel]at*
 rw[ku]at h1 h2
 have h4:A+P*(t'+c)+s*Y=T+P*b:=by rw[rX];omega
 have h5:t'+c=b:=by
  rcases Nat.lt_trichotomy (t'+c) b with h|h|h
  ·have:=jh P (show t'+c+1<=b from h)
   rw[rX P (t'+c)]at this
   omega
  ·exact h
  ·omega
 rw[h5]at h4
 refine⟨by omega,by omega,?_⟩
 rw[h5,Nat.mod_self]
def PM:∀{k n:Nat},B^k<=n->n<B^(k+1)->(aQ n).length=k+1/\(aQ n)[k]?=some (n/B^k)
 |0,n,h1,h2=>by
  have h0:n≠0:=by
   rw[AF]at h1;omega
  rw[mi h0]
  have h3:n/B=0:=zg (by simpa using h2)
  rw[h3,qO]
  simp
  exact w6 (by simpa using h2)
 |k+1,n,h1,h2=>by
  have hB:0<B:=by decide
  have hp:0<B^(k+1):=vu hB
  have h0:n≠0:=by omega
  have h3:B^k<=n/B:=(Ly hB).2 (by rw[<-fV];exact h1)
  have h4:n/B<B^(k+1):=(pd hB).2 (by rw[<-fV];exact h2)
  obtain⟨e1,e2⟩:=PM h3 h4
  rw[mi h0]
  refine⟨by simp[e1],?_⟩
  rw[Yx6,e2,ID,fV,iz (B^k)]
def Ykd{n:Nat}(h:(aQ n).length≠0):n≠0:=by
 rintro rfl
 exact h (by rw[qO];rfl)
def JP:∀{k n:Nat},(aQ n).length=k+1->B^k<=n/\n<B^(k+1)
 |0,n,h=>by
  have h0:=Ykd (n:=n) (by omega)
  rw[mi h0]at h
  have h1:(aQ (n/B)).length=0:=by simpa using h
  have h2:n/B=0:=by
   by_cases hc:n/B=0
   ·exact hc
   ·rw[mi hc]at h1;simp at h1
  have:=(Nat.div_eq_zero_iff).1 h2
  rcases this with hb|hb
  ·exact absurd hb (by decide)
  ·simp;omega
 |k+1,n,h=>by
  have h0:=Ykd (n:=n) (by omega)
  rw[mi h0]at h
  obtain⟨h1,h2⟩:=JP (k:=k) (n:=n/B) (by simpa using h)
  have hB:0<B:=by decide
  exact⟨by rw[fV];exact(Ly hB).1 h1,by rw[fV];exact(pd hB).1 h2⟩
def Ygu{t s:Nat}(hl:(aQ b).length=k+1)(ht:(aQ b)[k]?=some t)(h1:9223372036854775808<=t*2^s)(h2:t*2^s<18446744073709551616)(hs:s<=64):
  (aQ (b*2^s)).length=k+1/\∃v1,(aQ (b*2^s))[k]?=some v1/\9223372036854775808<=v1:=by
 obtain⟨b1,b2⟩:=JP hl
 have hp:0<B^k:=vu (by decide)
 have zS:=rY s
 have htd:t=b/B^k:=by
  have:=(PM b1 b2).2
  rw[ht]at this
  exact rL this
 have b3:t*B^k<=b:=by rw[htd];exact Nat.div_mul_le_self _ _
 have b4:b<(t+1)*B^k:=by
  rw[htd]
  exact(pd hp).1 (tu _)
 have c1:9223372036854775808*B^k<=b*2^s:=by
  have e1:=ot (B^k) h1
  have e2:=ot (2^s) b3
  have e3:t*2^s*B^k=t*B^k*2^s:=by grind
  omega
 have c2:b*2^s<B^(k+1):=by
  have e0:t+1<=2^(64-s):=by
   have:t<2^(64-s):=by
    apply Nat.lt_of_mul_lt_mul_right (a:=2^s)
    rw[<-Yw8,show 64-s+s=64 by omega];exact h2
   omega
  have e1:=ot (2^s) e0
  rw[<-Yw8,show 64-s+s=64 by omega]at e1
  have e2:=NT b4 zS
  have e3:=ot (B^k) e1
  have e4:(t+1)*2^s*B^k=(t+1)*B^k*2^s:=by grind
  rw[fV,iz]
  have e5:(2^64:Nat)*B^k=B^k*B:=by unfold B;rw[iz]
  rw[iz b]at e2
  omega
 have c0:B^k<=b*2^s:=by omega
 obtain⟨d1,d2⟩:=PM c0 c2
 exact⟨d1,_,d2,(Ly hp).2 c1⟩
def Yby{U:List Nat}{la m s:Nat}(hU:val B U=a*2^s)(hl:U.length=la+1)(hm:m+k+1=la+1)(xr:m<=U.length)(ha:a<B^la)(hs:s<64)(hv:9223372036854775808<=v1)(hY:v1*B^k<=Y):val B (U.drop m)<Y:=by
 have h1:=Eo B U m xr
 have h2:B^m*val B (U.drop m)<B^la*2^s:=by
  have:=NT ha (rY s)
  omega
 have h3:(2:Nat)^s<=9223372036854775808:=(Ywo (by decide) (show s<=63 by omega):(2:Nat)^s<=2^63)
 have h4:B^la=B^m*B^k:=by rw[<-Yw8];congr 1;omega
 rw[h4,AG]at h2
 have h5:=Nat.lt_of_mul_lt_mul_left h2
 have h6:=jh (B^k) h3
 have h7:=jh (B^k) hv
 rw[iz v1]at hY
 omega
open Go Go.Proofs
variable {N i iu j k n n2 v1:Nat} {U Y l o:List Nat} {h:T O} {r0:T V} {v:V}
set_option maxHeartbeats 4000000
set_option maxRecDepth 1000000
def A.zX:=A.q Tryz.f242
def A.jz:=A.ql A.zX 2 []
def A.jA:=A.ql A.zX 1 []
def A.jB:=A.ql A.zX 0 []
def A.ziF:=(fun x0 x1 x2=>A.qt A.zX [x0,x1,x2] [] [1,1,1,1,1]) A.jB A.jA A.jz
def A.b242:=(fun x0 x1 x2 y0=>A.qt A.zX [x0,x1,x2] [([1,1,1,1,1],y0)] []) A.jB A.jA A.jz A.ziF
def A.k242:=@A.kk 242 186 [.tmp 4] A.b242 (by kernel_rfl) rfl
def Ydg:xe i l≠[]:=by
 unfold xe
 split
 ·rintro rfl;simp_all
 ·simp
def Zjh{w:List Nat}(h:aL n (i::w)=[]):¬i<n/\aL n w=[]:=by
 simp only[aL]at h
 split at h
 ·exact absurd h Ydg
 ·rename_i hi;exact⟨hi,h⟩
def PR{n:Nat}:∀{w u:List Nat},aL n w=[]->aL n (w++u)=aL n u
 |[],u,_=>rfl
 |i::w,u,h=>by
  obtain⟨hi,hw⟩:=Zjh h
  simp only[BV,aL,hi,if_false]
  exact PR hw
def MB{n N:Nat}(hn:n<=N):∀{w:List Nat},aL N w=[]->aL n w=[]
 |[],_=>rfl
 |i::w,h=>by
  obtain⟨hi,hw⟩:=Zjh h
  simp only[aL,show ¬i<n by omega,if_false]
  exact MB hn hw
def Zuy(hi:¬i<n)(h:aL n l=[]):aL n (xe i l)=[]:=by
 unfold xe
 split
 ·exact h
 ·simp only[aL,hi,if_false];exact h
def PS{n N:Nat}:∀{w:List Nat},aL n w=[]->aL n (aL N w)=[]
 |[],_=>rfl
 |i::w,h=>by
  obtain⟨hi,hw⟩:=Zjh h
  have:=PS (N:=N) hw
  simp only[aL]
  split
  ·exact Zuy hi this
  ·exact this
def Zyl{r v:Nat}(hr:r<B)(hv:v<B):bJ (r+v)+B*cG (r+v)=r+v/\bJ (r+v)<B/\cG (r+v)<=1:=by
 have:=Ygj (c:=0) hv hr (by omega)
 simpa using this
def GuI(h:T O)(N u1 v1 W Z m:Nat)(r:T V)(st:St):Prop:=st=⟨h,N,[]⟩/\∃rr ov:Nat,r.get 6=some (.int .u64 m)/\r.get 7=some (.int .u64 rr)/\r.get 8=some (.int .u64 ov)/\ov<=1/\rr<B/\m<B/\u1=m*v1+(rr+B*ov)/\W<(m+1)*Z
structure Ul (h:T O) (N n2 iu j q:Nat) (U Y:List Nat) (m:Nat) (r:T V) (st:St):Prop where
 n:st.n=N
 w:aL n2 st.w=[]
 old:∀t,t≠iu->st.h.get t=h.get t
 ex:∃(i bw c:Nat) (o:List Nat),i+m=Y.length/\r.get 105=some (.int .i64 i)/\r.get 11=some (.int .u64 bw)/\r.get 12=some (.int .u64 c)/\st.h.get iu=some (.cells (dg o) 215 true)/\o.length=U.length/\Dg o/\(∀t,(t<j\/j+i<=t)->o[t]?=U[t]?)/\bw<=1/\c<B/\val B (o.drop j)+q*val B (Y.take i)=val B (U.drop j)+B^i*(c+bw)
structure Um (h:T O) (N n2 iu j:Nat) (U Y:List Nat) (m:Nat) (r:T V) (st:St):Prop where
 n:st.n=N
 w:aL n2 st.w=[]
 old:∀t,t≠iu->st.h.get t=h.get t
 ex:∃(i c:Nat) (o:List Nat),i+m=Y.length/\r.get 157=some (.int .i64 i)/\r.get 17=some (.int .u64 c)/\st.h.get iu=some (.cells (dg o) 215 true)/\o.length=U.length/\Dg o/\(∀t,(t<j\/j+i<=t)->o[t]?=U[t]?)/\c<=1/\val B (o.drop j)+B^i*c=val B (U.drop j)+val B (Y.take i)
structure JX (h:T O) (N n2 iu j k:Nat) (U Y:List Nat) (w:List Nat) (x:V) (st:St):Prop where
 n:st.n=N
 w:aL n2 st.w=aL n2 w
 old:∀t,t≠iu->st.h.get t=h.get t
 ex:∃(q:Nat) (o:List Nat),x=.int .u64 q/\q<B/\st.h.get iu=some (.cells (dg o) 215 true)/\o.length=U.length/\Dg o/\(∀t,t<j->o[t]?=U[t]?)/\(∀t,j+k+2<=t->t<o.length->o[t]?=some 0)/\val B (o.drop j)+q*val B Y=val B (U.drop j)/\val B (o.drop j)<val B Y
def Ym6{h:T O}{N n2 iu j q:Nat}{U Y:List Nat}{v:V}{cp:Option Nat}{r0:T V}(hv:Sl h n2 v (dg Y))(dY:Dg Y)(h2:n2<=iu)(hj:j+Y.length<U.length)(hl:U.length<1099511627776)(hq:q<B)
  (a0:r0.get 0=some (.slice iu j (Y.length+1) cp 1)) (a1:r0.get 1=some v) (a6:r0.get 6=some (.int .u64 q)) (PT:r0.get 104=some (.int .i64 Y.length)):
  ∀k r st,(∀t,jx [(11,16),(105,139)] t=false->r.get t=r0.get t)->Fx [(11,16),(105,139)] r0 186 ⟨r,186,[]⟩->Ul h N n2 iu j q U Y k r st->Code A.C none A.jA ⟨r,186,[]⟩ st (Rd [(11,16),(105,139)] r0 186 (Ul h N n2 iu j q U Y) k (fun e r st=>e=.exit 2/\Ul h N n2 iu j q U Y 0 r st)):=by
 rintro m r ⟨H,n1,W⟩ hr hf ⟨hn,hW,hO,i,bw,c,o,hi,zY,jR,yU,zgc,ho,hd,hs,hb,hc,he⟩
 simp only at hn hW hO zgc
 subst hn
 have lv:=hv.len
 rw[bH]at lv
 rw[cn]
 cases m with
 |zero=>
  have:i=Y.length:=by omega
  subst this
  simp[A.jA,hr,hf,PT,zY]
  exact⟨rfl,hW,hO,Y.length,bw,c,o,by omega,by simp[zY],by simp[jR],by simp[yU],zgc,ho,hd,hs,hb,hc,he⟩
 |succ m=>
  have aW:i<Y.length:=by omega
  have gy:=Yv8 aW
  generalize Y[i]=y at*
  have hy:y<B:=dY.get gy
  obtain⟨i2,o2,c2,e2,w2,p1,p2,p3,p4⟩:=hv.at (Za8 gy)
  have cv:i2≠iu:=by omega
  have p3:=(hO i2 cv).trans p3
  have go:o[j+i]?=some (o[j+i]'(by omega)):=Yv8 (by omega)
  generalize o[j+i]'(by omega)=u at*
  have hu:u<B:=hd.get go
  obtain⟨s1,s2,s3,s4,s5⟩:=Ym5 hq hy hc hu hb
  have zZ:i<Y.length+1:=by omega
  simp[A.jA,hr,PT,zY,aW,a6,a1,lv,p1,p3,p4]
  refine av (PU hq hy) ?_
  rintro _ H n1 CL ⟨rfl,rfl,rfl⟩
  have q1:bJ (bJ (q*y)+c)=uV q y c:=rfl
  have q2:cW (cG (q*y)) (cG (bJ (q*y)+c))=nS q y c:=rfl
  have hbi:(bw:Int)=0\/(bw:Int)=1:=by omega
  simp(disch:=first|(simp;done)|omega|(simp only[bH,cy,bC];omega)|rfl) [-getElem?_pos,hr,hf,zY,zZ,a0,jR,yU,zgc,Za8 go,oT,q1,q2,hbi]
  have uP:¬iu<n2:=by omega
  refine⟨m,by omega,rfl,by simp[aL,hW,uP],fun t ht=>by rw[T.al,aA ht];exact hO t ht,i+1,fG u (uV q y c) bw,nS q y c,o.set (j+i) (eG u (uV q y c) bw),by omega,by simp,by simp,by simp,by simp,by simp[ho],hd.sM s2,?_,s4,s3,?_⟩
  ·intro t ht
   rw[eJ (by omega)]
   exact hs t (by omega)
  ·have go2:(o.drop j)[i]?=some u:=by rw[gH];exact go
   have v1:=PV (b:=B) (v:=eG u (uV q y c) bw) go2
   rw[List.drop_set,aA (by omega),show j+i-j=i by omega,El gy]
   have e1:B^i*(eG u (uV q y c) bw+q*y+c+bw)=B^i*(u+B*(nS q y c+fG u (uV q y c) bw)):=by rw[s1]
   rw[fV]
   generalize val B ((o.drop j).set i (eG u (uV q y c) bw))=z1 at*
   generalize val B (o.drop j)=z2 at*
   generalize val B (U.drop j)=z3 at*
   generalize val B (List.take i Y)=z4 at*
   generalize eG u (uV q y c) bw=z5 at*
   generalize nS q y c=z6 at*
   generalize fG u (uV q y c) bw=z7 at*
   generalize B^i=z8 at*
   clear s1 gy hy go go2 hu hs hd
   grind
def Yo6{h:T O}{N n2 iu j:Nat}{U Y:List Nat}{v:V}{cp:Option Nat}{r0:T V}(hv:Sl h n2 v (dg Y))(dY:Dg Y)(h2:n2<=iu)(hN:iu<N)(hj:j+Y.length<U.length)(hl:U.length<1099511627776)
  (a0:r0.get 0=some (.slice iu j (Y.length+1) cp 1)) (a1:r0.get 1=some v) (PW:r0.get 156=some (.int .i64 Y.length)):
  ∀k r st,(∀t,jx [(17,18),(157,176)] t=false->r.get t=r0.get t)->Fx [(17,18),(157,176)] r0 186 ⟨r,186,[]⟩->Um h N n2 iu j U Y k r st->Code A.C none A.jz ⟨r,186,[]⟩ st (Rd [(17,18),(157,176)] r0 186 (Um h N n2 iu j U Y) k (fun e r st=>e=.exit 4/\Um h N n2 iu j U Y 0 r st)):=by
 rintro m r ⟨H,n1,W⟩ hr hf ⟨hn,hW,hO,i,c,o,hi,z_,Un,zgc,ho,hd,hs,hc,he⟩
 simp only at hn hW hO zgc
 subst hn
 have lv:=hv.len
 rw[bH]at lv
 rw[cn]
 cases m with
 |zero=>
  have:i=Y.length:=by omega
  subst this
  simp[A.jz,hr,hf,PW,z_]
  exact⟨rfl,hW,hO,Y.length,c,o,by omega,by simp[z_],by simp[Un],zgc,ho,hd,hs,hc,he⟩
 |succ m=>
  have aW:i<Y.length:=by omega
  have gy:=Yv8 aW
  generalize Y[i]=y at*
  have hy:y<B:=dY.get gy
  obtain⟨i2,o2,c2,e2,w2,p1,p2,p3,p4⟩:=hv.at (Za8 gy)
  have cv:i2≠iu:=by omega
  have p3:=(hO i2 cv).trans p3
  have go:o[j+i]?=some (o[j+i]'(by omega)):=Yv8 (by omega)
  generalize o[j+i]'(by omega)=u at*
  have hu:u<B:=hd.get go
  obtain⟨s1,s2,s3⟩:=Ygj hy hu hc
  have zZ:i<Y.length+1:=by omega
  have Jk:(c:Int)=0\/(c:Int)=1:=by omega
  have uP:¬iu<n2:=by omega
  have hiN:i2<n1:=by omega
  have kj:¬iu=i2:=fun hc=>cv hc.symm
  simp(disch:=first|(simp;done)|omega|(simp only[bH,cy,bC];omega)|rfl) [-getElem?_pos,A.jz,hr,hf,PW,z_,aW,zZ,hN,hiN,cv,kj,b_.chk,a0,a1,lv,p1,p3,p4,zgc,Za8 go,oT,Un,Jk]
  rw[Ny (by simp[hN,kj])]
  simp(disch:=first|(simp;done)|omega|(simp only[bH,cy,bC];omega)|rfl) [hr,hf,z_]
  refine⟨m,by omega,rfl,by simp[aL,hW,uP],fun t ht=>by rw[T.al,aA ht];exact hO t ht,i+1,cG (u+y+c),o.set (j+i) (bJ (u+y+c)),by omega,by simp,by simp,by simp,by simp[ho],hd.sM s2,?_,s3,?_⟩
  ·intro t ht
   rw[eJ (by omega)]
   exact hs t (by omega)
  ·have go2:(o.drop j)[i]?=some u:=by rw[gH];exact go
   have v1:=PV (b:=B) (v:=bJ (u+y+c)) go2
   rw[List.drop_set,aA (by omega),show j+i-j=i by omega,El gy]
   have e1:B^i*(bJ (u+y+c)+B*cG (u+y+c))=B^i*(u+y+c):=by rw[s1]
   rw[fV]
   generalize val B ((o.drop j).set i (bJ (u+y+c)))=z1 at*
   generalize val B (o.drop j)=z2 at*
   generalize val B (U.drop j)=z3 at*
   generalize val B (List.take i Y)=z4 at*
   generalize bJ (u+y+c)=z5 at*
   generalize cG (u+y+c)=z6 at*
   generalize B^i=z8 at*
   clear s1 gy hy go go2 hu hs hd
   grind
def Ynz{u2 u1 v2 U' V' P:Nat}{cp:Option Nat}{e0:TypeId}{rw0:Bool}(hv:Sl h n2 v (dg Y))(hY:Y.length=k+2)(dY:Dg Y)(hl:U.length<1099511627776)(Az:j+k+2<U.length)(hU:h.get iu=some (.cells (dg U) e0 rw0))(dU:Dg U)
  (f2:Y[k]?=some v2) (f1:Y[k+1]?=some v1) (g2:U[j+k]?=some u2) (nv:0<v1) (hP:0<P) (hU':U'<P) (Cc:V'<P)
  (a0:r0.get 0=some (.slice iu j (k+3) cp 1)) (a1:r0.get 1=some v) (a5:r0.get 5=some (.int .i64 ((k:Int)+2))):
  ∀m r st,(∀t,jx [(6,10),(63,103)] t=false->r.get t=r0.get t)->Fx [(6,10),(63,103)] r0 186 ⟨r,186,[]⟩->GuI h N u1 v1 (U'+P*(u2+B*u1)) (V'+P*(v2+B*v1)) m r st->Code A.C none A.jB ⟨r,186,[]⟩ st (Rd [(6,10),(63,103)] r0 186 (GuI h N u1 v1 (U'+P*(u2+B*u1)) (V'+P*(v2+B*v1))) m (fun e r st=>e=.exit 0/\st=⟨h,N,[]⟩/\∃q:Nat,r.get 6=some (.int .u64 q)/\q<B/\(q-1)*(V'+P*(v2+B*v1))<=U'+P*(u2+B*u1)/\U'+P*(u2+B*u1)<(q+1)*(V'+P*(v2+B*v1)))):=by
 rintro m r _ hr hf ⟨rfl,rr,ov,h6,h7,h8,hov,CK,hm,hinv,iH⟩
 have lv:=hv.len
 rw[bH]at lv
 rw[cn]
 have ix:v2<B:=dY.get f2
 have CO:v1<B:=dY.get f1
 have fi:u2<B:=dU.get g2
 have fin:m*v2<=(rr+B*ov)*B+u2->(m-1)*(V'+P*(v2+B*v1))<=U'+P*(u2+B*u1):=by
  intro hc
  cases m with
  |zero=>simp
  |succ s=>exact Yns nv Cc (by omega) hinv hc
 by_cases h0:ov=0
 ·subst h0
  simp only[Nat.mul_zero,mY]at hinv fin
  obtain⟨i2,o2,c2,e2,w2,p1,p2,p3,p4⟩:=hv.at (Za8 f2)
  have hk1:((k:Int)+2-2)=(k:Int):=by omega
  have xr:(k:Int)<((k+2:Nat):Int):=by omega
  have PX:(k:Int)<((k+3:Nat):Int):=by omega
  rw[hY]at lv
  simp(disch:=first|(simp;done)|omega|(simp only[bH,cy,bC];omega)|rfl) [A.jB,hr,hf,h6,h7,h8,a0,a1,a5,lv,p1,p3,p4,a_,hk1,xr]
  refine av (PU hm ix) ?_
  rintro _ h N CL ⟨rfl,rfl,rfl⟩
  have hp:bJ (m*v2)+B*cG (m*v2)=m*v2:=by
   have:=tA (m*v2) B
   unfold bJ cG;unfold B at*;omega
  have Cq:bJ (m*v2)<B:=Yei
  obtain⟨i1,o1,c1,e1,w1,q1,q2,q3,q4⟩:=hv.at (Za8 f1)
  obtain⟨hi,Aa⟩:∃x,cG (m*v2)=x:=⟨_,rfl⟩
  obtain⟨lo,ziN⟩:∃x,bJ (m*v2)=x:=⟨_,rfl⟩
  rw[Aa,ziN]at hp
  rw[ziN]at Cq
  by_cases c1:hi<rr
  ·have:=fin (by
    have:=jh B c1
    rw[iz rr B];rw[Nat.succ_eq_add_one,rX]at this;omega)
   simp[hf,h6,h7,Aa,ziN,c1]
   exact⟨hm,this,iH⟩
  ·have dec:rr*B+u2<m*v2->0<m/\u1=(m-1)*v1+(rr+v1)/\U'+P*(u2+B*u1)<(m-1+1)*(V'+P*(v2+B*v1)):=by
    intro hc
    have h3:=Ynr hU' hinv hc (b:=B) (P:=P) (V':=V')
    cases m with
    |zero=>omega
    |succ s=> 
     refine⟨by omega,?_,by simpa using h3⟩
     rw[hinv,ku];simp;omega
   obtain⟨s1,s2,s3⟩:=Zyl CK CO
   have jZ:((k:Int)+2-1)=(k:Int)+1:=by omega
   have PY:(k:Int)+1<((k+2:Nat):Int):=by omega
   have sbm:0<m->zgg m 1=m-1:=fun hc=>Ek hc (by unfold B at hm;omega)
   by_cases c2:hi=rr
   ·by_cases c3:lo<=u2
    ·have:=fin (by rw[<-hp,c2,iz rr B];omega)
     simp(disch:=first|(simp;done)|omega|(simp only[bH,cy,bC];omega)|rfl) [-getElem?_pos,hr,hf,h6,h7,h8,Aa,ziN,c1,c2,c3,a_,a0,a5,hk1,PX,hU,Za8 g2]
     exact⟨hm,this,iH⟩
    ·obtain⟨d1,d2,d3⟩:=dec (by rw[<-hp,c2,iz rr B];omega)
     have sb:=sbm d1
     simp(disch:=first|(simp;done)|omega|(simp only[bH,cy,bC];omega)|rfl) [-getElem?_pos,hr,hf,h6,h7,h8,Aa,ziN,c1,c2,c3,a_,a0,a1,a5,hk1,jZ,PX,hU,Za8 g2,lv,q1,q3,q4,PY,sb]
     exact⟨m-1,by omega,rfl,bJ (rr+v1),cG (rr+v1),by simp,by simp,by simp,s3,s2,by omega,by rw[s1];exact d2,d3⟩
   ·obtain⟨d1,d2,d3⟩:=dec (by
     have:rr+1<=hi:=by omega
     have:=jh B this
     rw[rX]at this
     rw[<-hp,iz rr B];omega)
    have sb:=sbm d1
    simp(disch:=first|(simp;done)|omega|(simp only[bH,cy,bC];omega)|rfl) [hr,hf,h6,h7,h8,Aa,ziN,c1,c2,a_,a0,a1,a5,hk1,jZ,lv,q1,q3,q4,PY,sb]
    exact⟨m-1,by omega,rfl,bJ (rr+v1),cG (rr+v1),by simp,by simp,by simp,s3,s2,by omega,by rw[s1];exact d2,d3⟩
 ·have:ov=1:=by omega
  subst this
  have:=fin (by
   have h1:m*v2<=B*B:=tU (by omega) (by omega)
   rw[wP,ku];omega)
  simp[A.jB,hf,h8]
  exact⟨m,by simp[h6],hm,this,iH⟩
def Zuf(hl:o.length=U.length)(hj:j+n<=U.length):val B (o.drop j)=val B ((o.drop j).take n)+B^n*val B (o.drop (j+n)):=by
 have:=Eo B (o.drop j) n (by rw[AQ];omega)
 rw[List.drop_drop]at this
 exact this
def Zx2{p:Nat}(hl:o.length=U.length)(hs:∀t,p<=t->o[t]?=U[t]?):o.drop p=U.drop p:=by
 apply o8
 intro t
 rw[gH,gH]
 exact hs _ (by omega)
def Ycf(hd:Dg o)(hl:o.length=U.length)(hj:j+n<=U.length):val B ((o.drop j).take n)<B^n:=by
 apply Zm6
 ·intro d h;exact hd d (List.mem_of_mem_drop h)
 ·rw[AQ];omega
def Ybx{p d:Nat}(hd:o[p]?=some d)(hz:∀t,p+1<=t->t<o.length->o[t]?=some 0):val B (o.drop p)=d:=by
 rw[Bm hd,Zgc hz];omega
def Yoj(h:k<l.length):aj (dg l) k [.int .u64 0]=dg (l.set k 0):=oT (v:=0) h
def Yb3{d u2 u1 v2 U' V' q0 Uo Up:Nat}{cp:Option Nat}(hv:Sl h n2 v (dg Y))(hY:Y.length=k+2)(dY:Dg Y)(h2:n2<=iu)(hN:iu<N)(hl:U.length<1099511627776)(Az:j+k+2<U.length)(hU:h.get iu=some (.cells (dg U) 215 true))(dU:Dg U)
  (f2:Y[k]?=some v2) (f1:Y[k+1]?=some v1) (g2:U[j+k]?=some u2) (gd:U[j+k+2]?=some d) (hz:∀t,j+k+3<=t->t<U.length->U[t]?=some 0) (nv:0<v1) (hU':U'<B^k) (Cc:V'<B^k) (eU:val B (U.drop j)=U'+B^k*(u2+B*u1)) (eV:val B Y=V'+B^k*(v2+B*v1))
  (a0:r0.get 0=some (.slice iu j (k+3) cp 1)) (a1:r0.get 1=some v) (a5:r0.get 5=some (.int .i64 ((k:Int)+2))) (a6:r0.get 6=some (.int .u64 q0)) (a7:r0.get 7=some (.int .u64 Uo)) (a8:r0.get 8=some (.int .u64 Up))
  (b1:Up<=1) (b2:Uo<B) (b3:q0<B) (b4:u1=q0*v1+(Uo+B*Up)) (b5:U'+B^k*(u2+B*u1)<(q0+1)*(V'+B^k*(v2+B*v1))):
  Code A.C none A.ziF ⟨r0,186,[]⟩ ⟨h,N,[]⟩ (fun e fr st=>e=.ret/\∃r x,fr=⟨r,186,[]⟩/\r.get 4=some x/\JX h N n2 iu j k U Y [] x st):=by
 have hP:0<B^k:=vu (by decide)
 rw[cn]
 simp[A.ziF]
 refine Zal [(6,10),(63,103)] _ (GuI h N u1 v1 (U'+B^k*(u2+B*u1)) (V'+B^k*(v2+B*v1))) q0 ?_ (Ynz hv hY dY hl Az hU dU f2 f1 g2 nv hP hU' Cc a0 a1 a5) ?_
 ·exact⟨rfl,Uo,Up,a6,a7,a8,b1,b2,b3,b4,b5⟩
 rintro e r _ hr ⟨rfl,rfl,q,h6,hq,fO,iH⟩
 rw[<-eU,<-eV]at fO iH
 simp[hr,a5]
 refine Zal [(11,16),(105,139)] _ (Ul h N n2 iu j q U Y) Y.length ?_ (Ym6 hv dY h2 (by omega) hl hq (cp:=cp) (by simp[hr,a0,hY]) (by simp[hr,a1]) (by simp[h6]) (by simp[hY])) ?_
 ·exact⟨rfl,rfl,fun _ _=>rfl,0,0,0,U,by omega,by simp,by simp,by simp,hU,rfl,dU,fun _ _=>rfl,by omega,by decide,by simp[val]⟩
 rintro e r1 ⟨H,n1,W⟩ Es ⟨rfl,hn,hW,hO,i,bw,cc,o,hi,zY,jR,yU,zgc,ho,hd,hs,hb,hc,he⟩
 simp only at hn hW hO zgc
 subst hn
 have:i=k+2:=by omega
 subst this
 have god:o[j+(k+2)]?=some d:=by rw[hs _ (by omega)];exact gd
 have hdB:d<B:=dU.get gd
 obtain⟨s1,s2,s3⟩:=Yl9 hc hdB hb
 have hbi:(bw:Int)=0\/(bw:Int)=1:=by omega
 have uP:¬iu<n2:=by omega
 obtain⟨t',PZ⟩:∃x,eG d cc bw=x:=⟨_,rfl⟩
 obtain⟨ee,Oq⟩:∃x,fG d cc bw=x:=⟨_,rfl⟩
 rw[PZ,Oq]at s1
 rw[PZ]at s2
 rw[Oq]at s3
 simp(disch:=first|(simp;done)|omega|(simp only[bH,cy,bC];omega)|rfl) [-getElem?_pos,Es,hr,a0,a5,jR,yU,h6,zgc,Za8 god,oT,hbi,PZ,Oq,show ((k:Int)+2).toNat=k+2 by omega]
 have hVP:val B Y<B^(k+2):=by rw[<-hY];exact Em dY
 have hPP:0<B^(k+2):=vu (by decide)
 have eo:=Zuf (j:=j) (n:=k+2) ho (by omega)
 have eu:=Zuf (o:=U) (j:=j) (n:=k+2) rfl (by omega)
 rw[Zx2 ho (p:=j+(k+2)) (fun t ht=>hs t (by omega))]at eo
 have zeu:val B (U.drop (j+(k+2)))=d:=Ybx gd (fun t h1 h2=>hz t (by omega) h2)
 rw[zeu]at eo eu
 have hSP:=Ycf (j:=j) (n:=k+2) hd ho (by omega)
 have go2:(o.drop j)[k+2]?=some d:=by rw[gH];exact god
 have vs:=PV (b:=B) (v:=t') go2
 rw[jP (by omega)]at he
 generalize val B ((o.drop j).take (k+2))=S at*
 generalize val B ((U.drop j).take (k+2))=W0 at*
 have h1:S+q*val B Y=W0+B^(k+2)*(cc+bw):=by rw[eo,eu]at he;omega
 have kt:=Yqx (by decide) hPP hVP hSP s2 s3 h1 (by omega:t'+(cc+bw)=d+B*ee) (by rw[<-eu];exact fO) (by rw[<-eu];exact iH)
 have P1:(o.set (j+(k+2)) t').drop j=(o.drop j).set (k+2) t':=by rw[List.drop_set,aA (by omega),show j+(k+2)-j=k+2 by omega]
 have vo2:val B ((o.set (j+(k+2)) t').drop j)=S+B^(k+2)*t':=by rw[P1];omega
 have yd:=hd.sM (k:=j+(k+2)) s2
 have dX:aL n2 (iu::W)=[]:=by simp[aL,hW,uP]
 by_cases Pc:ee=0
 ·obtain⟨t1,t2,t3⟩:=kt.1 Pc
  subst t3
  simp(disch:=first|(simp;done)|omega|(simp only[bH,cy,bC];omega)|rfl) [-getElem?_pos,Es,hr,h6,Pc]
  refine JX.mk rfl dX (fun t ht=>by rw[T.al,aA ht];exact hO t ht) ⟨q,o.set (j+(k+2)) 0,rfl,hq,by simp,by simp[ho],yd,?_,?_,?_,?_⟩
  ·intro t ht
   rw[eJ (by omega)];exact hs t (by omega)
  ·intro t t1 t2
   rw[xL]at t2
   by_cases htt:t=j+(k+2)
   ·subst htt;rw[lM (by omega)]
   ·rw[eJ (by omega),hs t (by omega)];exact hz t (by omega) (by omega)
  ·rw[vo2,eu];omega
  ·rw[vo2];omega
 ·have JY:ee=1:=by omega
  obtain⟨t1,t2,t3⟩:=kt.2 JY
  have sb:zgg q 1=q-1:=Ek t1 (by unfold B at hq;omega)
  have ix:Sl (H.set iu (.cells (dg (o.set (j+(k+2)) t')) 215 true)) n2 v (dg Y):=hv.ai ⟨Yv5 _,fun i hi=>by rw[T.al,aA (by omega)];exact hO i (by omega)⟩
  simp[Es,hr,a5,Pc]
  refine Zal [(17,18),(157,176)] _ (Um _ n1 n2 iu j (o.set (j+(k+2)) t') Y) Y.length ?_ (Yo6 ix dY h2 hN (by simp;omega) (by simp;omega) (cp:=cp) (by simp[Es,hr,a0,hY]) (by simp[Es,hr,a1]) (by simp[hY])) ?_
  ·exact⟨rfl,dX,fun _ _=>rfl,0,0,o.set (j+(k+2)) t',by omega,by simp,by simp,by simp,rfl,yd,fun _ _=>rfl,by omega,by simp[val]⟩
  rintro e r2 ⟨H3,n3,W3⟩ dw ⟨rfl,hn3,JZ,P2,i3,c3,o3,hi3,z_,Un,Et,Eu,hd3,Uq,hc3,he3⟩
  simp only at hn3 JZ P2 Et
  subst hn3
  have:i3=k+2:=by omega
  subst this
  have go3:o3[j+(k+2)]?=some t':=by rw[Uq _ (by omega),lM (by omega)]
  have eo3:=Zuf (j:=j) (n:=k+2) (Eu.trans (xL ..)) (by omega)
  rw[xL]at Eu
  rw[Zx2 (Eu.trans (xL ..).symm) (p:=j+(k+2)) (fun t ht=>Uq t (by omega))]at eo3
  have e4:val B ((o.set (j+(k+2)) t').drop (j+(k+2)))=t':=Ybx (lM (by omega)) (fun t h1 h2=>by
   rw[xL]at h2
   rw[eJ (by omega),hs t (by omega)];exact hz t (by omega) (by omega))
  rw[e4]at eo3
  have zev:=Ycf (j:=j) (n:=k+2) hd3 Eu (by omega)
  have zew:(o3.drop j)[k+2]?=some t':=by rw[gH];exact go3
  have vs3:=PV (b:=B) (v:=0) zew
  rw[jP (by omega),vo2,eo3]at he3
  generalize val B ((o3.drop j).take (k+2))=A at*
  obtain⟨z1,z2,z3⟩:=Ynq hPP hVP zev hc3 s2 t1 t2 t3 (by rw[<-eu];exact fO) (by omega:A+B^(k+2)*c3=S+val B Y)
  have z4:cW t' c3=0:=z3
  simp(disch:=first|(simp;done)|omega|(simp only[bH,cy,bC];omega)|rfl) [-getElem?_pos,dw,Es,hr,a0,a5,Un,h6,Et,Za8 go3,oT,Yoj (l:=o3) (k:=j+(k+2)) (by omega),z4,sb,show ((k:Int)+2).toNat=k+2 by omega]
  have J0:aL n2 (iu::W3)=[]:=by simp[aL,JZ,uP]
  refine JX.mk rfl J0 (fun t ht=>by rw[T.al,aA ht,P2 t ht,T.al,aA ht];exact hO t ht) ⟨q-1,o3.set (j+(k+2)) 0,rfl,by omega,by simp,by simp[Eu,ho],hd3.sM (by decide),?_,?_,?_,?_⟩
  ·intro t ht
   rw[eJ (by omega),Uq t (by omega),eJ (by omega)];exact hs t (by omega)
  ·intro t t1 t2
   rw[xL]at t2
   by_cases htt:t=j+(k+2)
   ·subst htt;rw[lM (by omega)]
   ·rw[eJ (by omega),Uq t (by omega),eJ (by omega),hs t (by omega)];exact hz t (by omega) (by omega)
  ·rw[List.drop_set,aA (by omega),show j+(k+2)-j=k+2 by omega,eu];omega
  ·rw[List.drop_set,aA (by omega),show j+(k+2)-j=k+2 by omega];omega
def Yb5{cp:Option Nat}{w:List Nat}(hv:Sl h n2 v (dg Y))(hY:Y.length=k+2)(dY:Dg Y)(h2:n2<=iu)(hN:iu<N)(hl:U.length<1099511627776)(Az:j+k+2<U.length)(hU:h.get iu=some (.cells (dg U) 215 true))(dU:Dg U)
  (f1:Y[k+1]?=some v1) (nv:0<v1) (hz:∀t,j+k+3<=t->t<U.length->U[t]?=some 0) (aW:val B (U.drop j)<B*val B Y):
  Call A.C (.func 242 [] []) [.slice iu j (k+3) cp 1,v] ⟨h,N,w⟩ (JX h N n2 iu j k U Y w):=by
 have lv:=hv.len
 rw[bH,hY]at lv
 have f2:=Yv8 (l:=Y) (i:=k) (by omega)
 have g2:=Yv8 (l:=U) (i:=j+k) (by omega)
 have gc:=Yv8 (l:=U) (i:=j+k+1) (by omega)
 have gd:=Yv8 (l:=U) (i:=j+k+2) (by omega)
 generalize Y[k]'(by omega)=v2 at*
 generalize U[j+k]'(by omega)=u2 at*
 generalize U[j+k+1]'(by omega)=c at*
 generalize U[j+k+2]'(by omega)=d at*
 have gd':U[j+(k+2)]?=some d:=by rw[<-oZ];exact gd
 have gc':U[j+(k+1)]?=some c:=by rw[<-oZ];exact gc
 have zex:v2<B:=dY.get f2
 have CO:v1<B:=dY.get f1
 have zey:u2<B:=dU.get g2
 have hcB:c<B:=dU.get gc
 have hP:0<B^k:=vu (by decide)
 have eU:=Ygv (b:=B) (w:=U.drop j) (k:=k) (a:=u2) (c:=c) (d:=d) (by rw[gH];exact g2) (by rw[gH];exact gc) (by rw[gH];exact gd) (fun t h1 h2=>by rw[gH];rw[AQ]at h2;exact hz _ (by omega) (by omega))
 have eV:=Ygw (b:=B) f2 f1 hY
 have hU':=Ycf (j:=j) (n:=k) dU rfl (by omega)
 have Cc:=Zm6 (b:=B) (k:=k) dY (by omega)
 rw[eU,eV]at aW
 generalize val B ((U.drop j).take k)=U' at*
 generalize val B (Y.take k)=V' at*
 obtain⟨i1,o1,c1,e1,w1,q1,q2,q3,q4⟩:=hv.at (Za8 f1)
 have yg:i1<N:=by omega
 have cv:¬i1=iu:=by omega
 have kj:¬iu=i1:=by omega
 have t1:((k:Int)+2-1)=(k:Int)+1:=by omega
 have t2:((k:Int)+2).toNat=k+2:=by omega
 rw[aZ,A.k242 (by simp)]
 have fin:∀(r:T V) (q rr ov:Nat) (K:List Kf) (Q:Rs->Prop),r.get 0=some (.slice iu j (k+3) cp 1)->r.get 1=some v->r.get 5=some (.int .i64 ((k:Int)+2))->r.get 6=some (.int .u64 q)->r.get 7=some (.int .u64 rr)->r.get 8=some (.int .u64 ov)->ov<=1->rr<B->q<B->d*B+c=q*v1+(rr+B*ov)->U'+B^k*(u2+B*(d*B+c))<(q+1)*(V'+B^k*(v2+B*v1))->(∀r x st,r.get 4=some x->JX h N n2 iu j k U Y [] x st->Run A.C K (some (.ex .ret ⟨r,186,[]⟩ st)) Q)->Run A.C K (fx (A.C.code none A.ziF ⟨r,186,[]⟩ ⟨h,N,[]⟩)) Q:=by
  intro r q rr ov K Q a0 a1 a5 a6 a7 a8 b1 b2 b3 b4 b5 hq
  refine nc (Yb3 hv hY dY h2 hN hl Az hU dU f2 f1 g2 gd hz nv hU' Cc eU eV a0 a1 a5 a6 a7 a8 b1 b2 b3 b4 b5) ?_
  rintro e fr st ⟨rfl,r',x,rfl,hx,hs⟩
  exact hq r' x st hx hs
 have out:∀(r:T V) (x:V) (st:St),r.get 4=some x->JX h N n2 iu j k U Y [] x st->Run A.C [.fin [.tmp 4] ⟨h,N,w⟩] (some (.ex .ret ⟨r,186,[]⟩ st)) (Cv (JX h N n2 iu j k U Y w)):=by
  rintro r x ⟨H,n1,W⟩ h4 ⟨s1,s2,s3,s4⟩
  simp[h4]
  exact⟨s1,by show aL n2 (aL N W++w)=_;rw[PR (PS (by simpa[aL]using s2))],s3,s4⟩
 by_cases oB:v1<=d
 ·have Ev:=Yq3 hP Cc zex oB aW
  subst Ev
  obtain⟨s1,s2,s3⟩:=Zyl hcB CO
  simp(disch:=first|(simp;done)|omega|(simp only[bH,cy,bC];omega)|rfl) [-getElem?_pos,A.b242,lv,hN,yg,cv,kj,hU,Za8 gd',Za8 gc',q1,q3,q4,t1,t2,b_.chk]
  refine fin _ 18446744073709551615 (bJ (c+d)) (cG (c+d)) _ _ (by simp) (by simp) (by simp) (by simp) (by simp) (by simp) s3 s2 (by decide) ?_ ?_ (fun r x st h4 hs=>out r x st h4 hs)
  ·rw[s1];unfold B;omega
  ·unfold B at aW ⊢;exact aW
 ·have zV:¬(v1:Int)<=(d:Int):=by omega
  simp(disch:=first|(simp;done)|omega|(simp only[bH,cy,bC];omega)|rfl) [-getElem?_pos,A.b242,lv,hN,yg,cv,kj,hU,Za8 gd',Za8 gc',q1,q3,q4,t1,t2,zV,b_.chk]
  refine av (Zx3 (show d<v1 by omega) CO hcB) ?_
  rintro _ h' N' hk ⟨rfl,rfl,rfl⟩
  obtain⟨q,hq⟩:∃q,(d*18446744073709551616+c)/v1=q:=⟨_,rfl⟩
  obtain⟨rr,CK⟩:∃q,(d*18446744073709551616+c)%v1=q:=⟨_,rfl⟩
  have hinv:d*B+c=q*v1+rr:=by
   have:=tA (d*18446744073709551616+c) v1
   rw[hq,CK,iz]at this
   exact this.symm
  have MA:rr<v1:=by rw[<-CK];exact kf _ nv
  have hqB:q<B:=by
   rw[<-hq];apply (pd nv).2
   have:=ot B (show d+1<=v1 by omega)
   rw[iz B v1]
   rw[ku]at this
   unfold B at*;omega
  rw[hq,CK]
  simp[b_.chk]
  refine fin _ q rr 0 _ _ (by simp) (by simp) (by simp) (by simp) (by simp) (by simp) (by omega) (by omega) hqB (by rw[hinv];omega) (Yq4 hU' zey hinv MA) (fun r x st h4 hs=>out r x st h4 hs)
end
end Go.Mx
