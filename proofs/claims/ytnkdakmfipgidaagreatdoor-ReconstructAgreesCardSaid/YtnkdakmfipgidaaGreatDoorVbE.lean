/-reconstruct-/
import Derived.Test.YtnkdakmfipgidaaGreatDoorVbA
set_option linter.all false
set_option maxHeartbeats 4000000
namespace Go.Mx
noncomputable section
open Go Go.Proofs
variable {N k:Nat} {h:T O} {m:List (List Rat)} {u v:V}
set_option maxRecDepth 1000000
def A.b66:=A.q Tryz.f66
def A.k66:=@A.kk 66 11 [.tmp 4] A.b66 (by kernel_rfl) rfl
def A.b91:=A.q Tryz.f91
def A.k91:=@A.kk 91 8 [.tmp 4] A.b91 (by kernel_rfl) rfl
def A.b159:=A.q Tryz.f159
def A.k159:=@A.kk 159 8 [.cell 3 (some 4)] A.b159 (by kernel_rfl) rfl
def A.b45:=A.q Tryz.f45
def A.k45:=@A.kk 45 5 [.tmp 2] A.b45 (by kernel_rfl) rfl
def Yph{a b:List Rat}{j:Nat}(hu:kf h N u a)(hv:kf h N v b)(fX:a.length<=b.length)(ha:∀q∈a,Qb j q)(hb:∀q∈b,Qb k q)(hj:1<=j)(hk:1<=k)(hl:a.length*(j+k+1)+j+k+1<=400000000):ij A.C (.func 152 [v] []) [u] h N (fun x h' n'=>Fc h' n' x (e_ a b)):=by
 intro w;have kB:ab h N (h.set N (.cells zF 123 true)) (N+1):=ab.refl.new _;rw[aN,A.k152 (by simp)];simp[A.b152];refine av (Ywj (hu.ad kB) (hv.ad kB) fX ha hb hj hk hl) ?_;rintro _ h1 n1 k1 hz;obtain⟨c,rfl,hc⟩:=hz.c;have yw:=k1.le;have g1:=k1.get N (by omega);rw[T.ae,ar rfl]at g1;obtain⟨e1,e2⟩:=hc.len;have mW:(V.agg c).cells=c:=rfl;have e4:ag zF 0 c=c:=by unfold ag;rw[e1];simp[zF]
 have DD:ux zF:=by intro x hx m;simp[zF]at hx;rcases hx with rfl|rfl|rfl|rfl<;>simp
 have kk:=(kB.trans k1).set (h:=h) (n:=N) (i:=N) (o:=.cells c 123 true) (aO N);have pL:=(hc.aI (e1:=123) (w1:=true) (c1:=c) g1 DD (by rw[e1];rfl)).fc;have s0:aL c 0 4=some c:=by unfold aL;rw[e1];simp;exact gp (by omega)
 have aC:N<n1:=by omega
 unfold zF at e4;simp[-V.cells, -V.one,mW,e1,e2,e4,s0,g1,bO,ax];exact⟨kk,pL⟩
def gF(h:T O)(N:Nat)(v:V)(m:List (List Rat)):Prop:=∃us:List V,Sl h N v us/\us.length=m.length/\∀(j:Nat) (l:List Rat),m[j]?=some l->∃u,us[j]?=some u/\ec h N u l
def gF.ad{h':T O}{N':Nat}(s:gF h N v m)(k:ab h N h' N'):gF h' N' v m:=by obtain⟨us,h1,h2,h3⟩:=s;refine⟨us,h1.ad k,h2,fun j l hl=>?_⟩;obtain⟨u,g1,g2⟩:=h3 j l hl;exact⟨u,g1,g2.ad k⟩
def gF.len(s:gF h N v m):qg v=some m.length:=by obtain⟨us,h1,h2,_⟩:=s;rw[h1.len,h2]
def kf.form{l:List Rat}(s:kf h N v l):V.one v=true/\V.cells v=[v]/\NW v:=by
 obtain⟨cs,⟨_,rfl|rfl⟩|⟨i,o,cp,c,e,rw,rfl,_⟩,_⟩:=s
 ·exact⟨rfl,rfl,fun m=>by simp⟩
 ·exact⟨rfl,rfl,fun m=>by simp⟩
 exact⟨rfl,rfl,fun m=>by simp⟩
def CW{k0:Nat}(hs:mX h N v m)(hl:m.length<1000000000)(hm:∀l∈m,l.length<1000000000/\∀q∈l,Qb k0 q)(nY:k0<=4000):Fn A.C 45 [v] h N (fun u h' n'=>gF h' n' u m):=by
 intro w;obtain⟨us,h1,h2,h3⟩:=hs;rw[aN,A.k45 (by simp)];simp[A.b45];refine av (Ylj (Q:=fun j h n u=>∀l,m[j]?=some l->ec h n u l) NW (fun j h n h' n' c u hq k hd l hl=>(hq l hl).bY k hd (by simp)) h1 (by omega) ?_) ?_
 ·intro j x hx h' n' hk;obtain⟨l,hl⟩:=bj (l:=m) (k:=j) (by have:=gZ hx;omega);obtain⟨u,g1,g2⟩:=h3 j l hl;rw[hx]at g1;obtain rfl:x=u:=by simpa using g1
  obtain⟨b1,b2⟩:=hm l (cF hl);refine fun w=>(IE (k0:=k0) (g2.ad hk) b1 b2 nY w).mono fun y st=>?_;rintro⟨q1,q2,q3⟩;obtain⟨f1,f2,f3⟩:=q3.1.form;refine⟨q1,q2,y,rfl,rfl,by simp only[List.all_cons,List.all_nil,f1,Bool.and_true],by simpa using f3,fun l' jj=>?_⟩;rw[hl]at jj;obtain rfl:l=l':=by simpa using jj
  exact q3
 rintro u h4 n4 k4 ⟨out,o1,o2,o3⟩;simp[ax];refine⟨k4,?_⟩;have hx:∀x∈out,∃y,x=[y]:=fun x hx=>by
  have:=o1.1 x hx;cases x with
  |nil=>simp at this
  |cons y t=>cases t with
   |nil=>exact⟨y,rfl⟩
   |cons a b=>simp at this
 obtain⟨ys,Pb⟩:∃ys:List V,out=ys.map fun y=>[y]:=by
  clear o1 o2 o3;induction out with
  |nil=>exact⟨[],rfl⟩
  |cons x t ih=> obtain⟨y,rfl⟩:=hx x (by simp);obtain⟨ys,rfl⟩:=ih fun x mq=>hx x (by simp[mq]);exact⟨y::ys,rfl⟩
 subst Pb;refine⟨ys,Sn.one.1 o1.sn,by simpa[h2]using o2,fun j l hl=>?_⟩;obtain⟨y,g1,g2⟩:=o3 j (by have:=gZ hl;omega);refine⟨y,?_,g2 l hl⟩;rw[eG]at g1;cases hy:ys[j]? with
 |none=>rw[hy]at g1;simp at g1
 |some z=>rw[hy]at g1;simpa using g1
def Ygl{f:V}(F:List Rat->Rat)(hs:gF h N v m)(hl:m.length<1000000000)(hf:∀l∈m,∀u h' n',ab h N h' n'->ec h' n' u l->ij A.C f [u] h' n' (fun x h2 n2=>Fc h2 n2 x (F l))):Fn A.C 112 [v,f] h N (fun u h' n'=>ec h' n' u (m.map F)):=by
 obtain⟨us,h1,h2,h3⟩:=hs;have key:=Ylm (f:=f) (Q:=fun j h n c=>∀q,(m.map F)[j]?=some q->fV h n c q) NW (fun j h n h' n' c u hq k hd q uw=>(hq q uw).bY k hd) h1 (by omega) ?_
 ·intro w;refine(key w).mono fun u st=>?_;rintro⟨q1,q2,out,o1,o2,o3⟩;exact⟨q1,q2,Yg o1 (by simpa[h2]using o2) fun j hj=>o3 j (by simp at hj;omega)⟩
 intro j x hx h' n' hk;obtain⟨l,hl⟩:=bj (l:=m) (k:=j) (by have:=gZ hx;omega);obtain⟨u,g1,g2⟩:=h3 j l hl;rw[hx]at g1;obtain rfl:x=u:=by simpa using g1
 refine fun w=>(hf l (cF hl) x h' n' hk (g2.ad hk) w).mono fun y st=>?_;rintro⟨q1,q2,q3⟩;obtain⟨c,rfl,hc⟩:=q3.c;refine⟨q1,q2,c,rfl,hc.len.1,hc.len.2,hc.Nb,fun q hq=>?_⟩;simp[hl]at hq;rw[<-hq];exact hc
def Yo{b:List Rat}{j n:Nat}(hu:gF h N u m)(hv:kf h N v b)(hm:∀r∈m,r.length=n/\∀q∈r,Qb j q)(hn:n<=b.length)(hb:∀q∈b,Qb k q)(hj:1<=j)(hk:1<=k)(hl:n*(j+k+1)+j+k+1<=400000000)(kl:m.length<100000):Fn A.C 66 [u,v] h N (fun x h' n'=>ec h' n' x (m.map fun r=>e_ r b)):=by
 intro w;rw[aN,A.k66 (by simp)];simp[A.b66];refine av (Ygl (fun r=>e_ r b) hu (by omega) fun l il x h' n' kc hx=>?_) ?_
 ·obtain⟨b1,b2⟩:=hm l il;exact Yph hx.1 (hv.ad kc) (by omega) b2 hb hj hk (by rw[b1];exact hl)
 rintro x h4 n4 k4 hx;simp[ax];exact⟨k4,hx⟩
def Ys2{p:Nat}{l:List Rat}{e:TypeId}{rw:Bool}(hp:h.get p=some (.cells [.int .i64 k] e rw))(jA:p<N)(hu:kf h N u l)(hk:k<l.length):ij A.C (.func 159 [] [.ptr p 0]) [u] h N (fun x h' n'=>Fc h' n' x (l[k]?.getD 0)):=by
 intro w;have l1:=hu.len;have iD:(k:Int)<(l.length:Int):=by omega
 obtain⟨q,hq⟩:=bj hk;obtain⟨i,o,cc,e,rw,c,q1,q2,q3,q4,q5⟩:=hu.at hq;obtain⟨e1,e2⟩:=q5.len;have kB:ab h N (h.set N (.cells zF 123 true)) (N+1):=ab.refl.new _;have mW:(V.agg c).cells=c:=rfl;have e4:ag zF 0 c=c:=by unfold ag;rw[e1];simp[zF]
 have DD:ux zF:=by intro x hx m;simp[zF]at hx;rcases hx with rfl|rfl|rfl|rfl<;>simp
 have s0:aL c 0 4=some c:=by unfold aL;rw[e1];simp;exact gp (by omega)
 have kk:=kB.set (h:=h) (n:=N) (i:=N) (o:=.cells c 123 true) (aO N);have pL:=((q5.ad kB).aI (i:=N) (e0:=123) (w0:=true) (e1:=123) (w1:=true) (c1:=c) (by rw[T.ae,ar rfl]) DD (by rw[e1];rfl)).fc;have d1:¬p=N:=by omega
 have d2:¬i=N:=by omega
 rw[hq];unfold zF at e4;rw[aN,A.k159 (by simp)];simp[-V.cells, -V.one,A.b159,hp,d1,d2,l1,iD,q1,q3,q4,mW,e1,e2,e4,s0,bO,ax];exact⟨kk,pL⟩
def Yad{n:Nat}(hu:gF h N u m)(kl:m.length<100000)(hm:∀r∈m,r.length=n)(hk:k<n):Fn A.C 91 [u,.int .i64 k] h N (fun x h' n'=>ec h' n' x (p_ m k)):=by
 intro w;rw[aN,A.k91 (by simp)];have kB:ab h N (h.set N (.cells [.int .i64 k] 3 true)) (N+1):=ab.refl.new _;simp[A.b91];refine av (Ygl (fun r=>r[k]?.getD 0) (hu.ad kB) (by omega) fun l il x h' n' kc hx=>?_) ?_
 ·exact Ys2 (e:=3) (rw:=true) (by rw[kc.get N (by omega)];simp) (by have:=kc.le;omega) hx.1 (by rw[hm l il];exact hk)
 rintro x h4 n4 k4 hx;simp[ax];exact⟨kB.trans k4,hx⟩
variable {N:Nat} {h:T O} {l:List Rat} {m:List (List Rat)} {u v:V}
def A.R4:=A.q Tryz.f183
def A.tM:=A.ql A.R4 0 []
def A.b183:=(fun x0=>A.qb A.R4 [x0]) A.tM
def A.k183:=@A.kk 183 19 [.tmp 4] A.b183 (by kernel_rfl) rfl
def Yr7{f:V}(l:List (List V))(p:Nat->Bool)(hs:Sn 4 h N v l)(hl:l.length<1152921504606846976)(hf:∀(j:Nat) (x:List V),l[j]?=some x->∀h' n',ab h N h' n'->ij A.C f [.agg x] h' n' (fun u _ _=>u=.bool (p j))):Fn A.C 183 [v,f] h N (fun u _ _=>u=.int .i64 (pg p 0 l.length)):=by
 intro w;have hlen:=hs.len;rw[aN,A.k183 (by simp)];simp[A.b183,hlen];refine cm [(4,5),(8,18)] (fun e r st=>ay N st.w=[]/\ab h N st.h st.n/\((e=.exit 0/\pg p 0 l.length= -1)\/(e=.ret/\r.get 4=some (.int .i64 (pg p 0 l.length))))) (fun m r st=>ay N st.w=[]/\ab h N st.h st.n/\∃k,k+m=l.length/\r.get 8=some (.int .i64 k)/\pg p 0 l.length=pg p k m) l.length ?_ ?_ ?_
 ·exact⟨by simp,ab.refl,0,by omega,by simp,rfl⟩
 ·rintro m r ⟨H,n1,W⟩ hr dT ⟨hW,hK,k,hk,h8,hz⟩;simp only at hW hK;rw[bu];cases m with
  |zero=>
   have:k=l.length:=by omega
   subst this;simp only[pg]at hz;simp[A.tM,hr,dT,h8,hW,hK,hz]
  |succ m=>
   have aC:k<l.length:=by omega
   obtain⟨c,hc⟩:=bj aC;obtain⟨i,o,cc,e,rw,q1,q2,q3,q4⟩:=hs.at hc;have q3:=(hK.get _ q2).trans q3;have cI:(k:Int)<(l.length:Int):=by omega
   simp only[pg]at hz;simp[A.tM,hr,h8,cI,hlen,q1,q3,q4];refine DH (hf k c hc _ _ hK) ?_;rintro v h2 n2 k2 rfl;have kk:=hK.trans k2;cases hp:p k
   ·rw[hp]at hz;simp(disch:=first|(simp;done)|omega|rfl) [dT,h8,hW,kk];exact⟨m,by omega,k+1,by omega,by simp,by simpa using hz⟩
   rw[hp]at hz;simp[dT,hW,kk];simpa using hz.symm
 rintro e r ⟨H,n1,W⟩ hr ⟨hW,hK,⟨rfl,hz⟩|⟨rfl,h4⟩⟩
 ·simp only at hW hK;simp[hz,ax,hW,hK]
 simp only at hW hK;simp[h4,ax,hW,hK]
def A.b121:=A.q Tryz.f121
def A.k121:=@A.kk 121 9 [.tmp 4] A.b121 (by kernel_rfl) rfl
def A.b65:=A.q Tryz.f65
def A.k65:=@A.kk 65 8 [.tmp 2,.tmp 3] A.b65 (by kernel_rfl) rfl
def A.w75:=A.q Tryz.f75
def A.yb:=A.ql A.w75 0 []
def A.b75:=(fun x0=>A.qb A.w75 [x0]) A.yb
def A.k75:=@A.kk 75 19 [.tmp 4] A.b75 (by kernel_rfl) rfl
def A.w92:=A.q Tryz.f92
def A.yc:=A.ql A.w92 0 []
def A.b92:=(fun x0=>A.qb A.w92 [x0]) A.yc
def A.k92:=@A.kk 92 32 [.tmp 6] A.b92 (by kernel_rfl) rfl
def Ymz{f:V}(l:List (List V))(p:Nat->Bool)(hs:Sn 4 h N v l)(hl:l.length<1152921504606846976)(hf:∀(j:Nat) (x:List V),l[j]?=some x->∀h' n',ab h N h' n'->ij A.C f [.agg x] h' n' (fun u _ _=>u=.bool (p j))):Fn A.C 121 [v,f] h N (fun u _ _=>u=.bool (decide (0<=pg p 0 l.length))):=by intro w;rw[aN,A.k121 (by simp)];simp[A.b121];refine av (Yr7 l p hs hl hf) ?_;rintro v h2 n2 k2 rfl;simp[ax,k2]
def Yc2:decide (0<=pg (fun j=>zW (l[j]?.getD 0)) 0 l.length)=yf l:=by
 rw[Bool.eq_iff_iff,decide_eq_true_eq,Zu5];unfold yf;rw[List.any_eq_true];constructor
 ·rintro⟨j,_,h2,h3⟩;obtain⟨q,hq⟩:=bj (l:=l) (k:=j) (by omega);rw[hq]at h3;exact⟨q,cF hq,h3⟩
 rintro⟨q,hq,h3⟩;obtain⟨j,hj⟩:=nw hq;exact⟨j,wh _,by have:=gZ hj;omega,by rw[hj];exact h3⟩
def Zyo{h:T O}{N:Nat}{u:V}{l:List Rat}{k:Nat}(hu:kf h N u l)(hP:ik h N)(hl:l.length<1000000000)(hq:∀q∈l,Qb k q)(hk:k<=400000000):Fn A.C 65 [u] h N (fun x h' n'=>(yf l=true/\x=.aV [.aa,.int .i64 4])\/(yf l=false/\∃v,x=.aV [v,.int .i64 0]/\Ay h' n' v l)):=by
 intro w;obtain⟨cs,s1,s2,s3⟩:=id hu;have key:=Ymz (f:=.func 106 [] []) cs (fun j=>zW (l[j]?.getD 0)) s1 (by omega) (fun j x hx h' n' iD=>by
  obtain⟨q,hqj⟩:=bj (l:=l) (k:=j) (by have:=gZ hx;omega)
  obtain⟨c,g1,g2⟩:=s3 j q hqj
  rw[hx]at g1
  obtain rfl:x=c:=by simpa using g1
  simp only[hqj,g_]
  exact Yhg (g2.ad iD).fc (hP.ad iD) (hq q (cF hqj)) (by omega));rw[s2,Yc2]at key;rw[aN,A.k65 (by simp)];simp[A.b65];refine av key ?_;rintro _ h2 n2 k2 rfl;cases hb:yf l with
 |true=> simp[ax];exact k2
 |false=> simp[];refine av (Yjr (k0:=k) (hu.ad k2) (hP.ad k2) hl hq hk) ?_;rintro v h3 n3 k3 t1;simp[ax];exact⟨k2.trans k3,t1⟩
def Yd9{k:Nat}(hu:kf h N u l)(hP:ik h N)(hl:l.length<1000000000)(hq:∀q∈l,Qb k q)(hk:k<=400000000):Fn A.C 65 [u] h N (fun x h' n'=>(yf l=true/\x=.aV [.aa,.int .i64 4])\/(yf l=false/\∃v,x=.aV [v,.int .i64 0]/\Tx h' n' v l)):=fun w=>(Zyo hu hP hl hq hk w).mono fun x st ⟨a,b,c⟩=>⟨a,b,c.imp id fun ⟨e,v,r,t⟩=>⟨e,v,r,t.1⟩⟩
def iw(N0:Nat)(h:T O)(N:Nat)(v:V)(m:List (List Rat)):Prop:=∃us:List V,Own 1 81 N0 h N v (us.map fun y=>[y])/\(us=[]->v=.aa)/\us.length=m.length/\∀(j:Nat) (l:List Rat),m[j]?=some l->∃u,us[j]?=some u/\ec h N u l
def iw.nil{N0:Nat}:iw N0 h N .aa []:=⟨[],Own.nil,fun _=>rfl,rfl,fun j l hl=>by simp at hl⟩
def iw.ad{N0:Nat}{h':T O}{N':Nat}(s:iw N0 h N v m)(k:ab h N h' N'):iw N0 h' N' v m:=by obtain⟨us,h1,h2,h3,h4⟩:=s;refine⟨us,h1.ad k,h2,h3,fun j l hl=>?_⟩;obtain⟨u,g1,g2⟩:=h4 j l hl;exact⟨u,g1,g2.ad k⟩
def iw.DP{N0:Nat}(s:iw N0 h N v m):gF h N v m:=by obtain⟨us,h1,h2,h3,h4⟩:=s;exact⟨us,Sn.one.1 h1.sn,h3,h4⟩
def iw.push{N0:Nat}{x:V}{w:List Nat}(s:iw N0 h N v m)(hu:ec h N u l)(hN:N0<=N)(hx:gb ⟨h,N,w⟩ 1 x=some (1,[u]))(hm:m.length<100000):
  ∃v' h' w',mm ⟨h,N,w⟩ 1 24 81 v x=some (v',⟨h',N+1,w'⟩)/\ay N0 w'=ay N0 w/\ab h N0 h' (N+1)/\iw N0 h' (N+1) v' (m++[l]):=by
 obtain⟨us,h1,h2,h3,h4⟩:=s;obtain⟨v',h',w',f1,f2,f3,f4,fD,f5⟩:=FO (Y:=NW) (x:=[u]) (u:=x) (bytes:=24) (w:=w) h1 (fun h0=>h2 (List.map_eq_nil_iff.1 h0)) (fun c hc y hy=>by
  obtain⟨z,hz,rfl⟩:=bF.1 hc
  obtain rfl:y=z:=by simpa using hy
  obtain⟨j,hj⟩:=nw hz
  obtain⟨r,hr⟩:=bj (l:=m) (k:=j) (by have:=gZ hj;omega)
  obtain⟨u',g1,g2⟩:=h4 j r hr
  rw[hj]at g1
  obtain rfl:y=u':=by simpa using g1
  exact g2.1.form.2.2) hN (by decide) rfl hx (by rw[cG];omega);refine⟨v',h',w',f1,f2,f3,us++[u],by simpa using f5,by simp,by simp[h3],fun j r hr=>?_⟩;by_cases hj:j<m.length
 ·rw[mj hj]at hr;obtain⟨u',g1,g2⟩:=h4 j r hr;exact⟨u',by rw[mj (by omega)];exact g1,g2.bY f4 fD (by simp)⟩
 rw[pY (by omega)]at hr;cases hd:j-m.length with
 |zero=> rw[hd]at hr;simp at hr;subst hr;exact⟨u,by rw[pY (by omega),h3,hd];rfl,hu.bY f4 fD (by simp)⟩
 |succ d=>rw[hd]at hr;simp at hr
def Sp{n:Nat}(hu:gF h N u m)(kl:m.length<100000)(hm:∀r∈m,r.length=n)(hn:n<1000):Fn A.C 75 [u,.int .i64 n] h N (fun x h' n'=>iw N h' n' x (cn m n)):=by
 intro w;rw[aN,A.k75 (by simp)];simp[A.b75];refine cm [(5,6),(8,17)] (fun e r st=>e=.exit 0/\ay N st.w=[]/\ab h N st.h st.n/\∃x,r.get 5=some x/\iw N st.h st.n x (cn m n)) (fun i r st=>ay N st.w=[]/\ab h N st.h st.n/\∃k x,k+i=n/\r.get 8=some (.int .i64 k)/\r.get 5=some x/\iw N st.h st.n x (cn m k)) n ?_ ?_ ?_
 ·exact⟨by simp,ab.refl,0,.aa,by omega,by simp,by simp,iw.nil⟩
 ·rintro i r ⟨H,n1,W⟩ hr hf ⟨hW,hK,k,x,hk,h8,h5,ho⟩;simp only at hW hK ho;rw[bu];cases i with
  |zero=>
   obtain rfl:k=n:=by omega
   simp[A.yb,hr,hf,h8,h5,hW,hK];exact ho
  |succ i=>
   have aC:k<n:=by omega
   have cg:(k:Int)<(n:Int):=by omega
   simp[A.yb,hr,h8,h5,cg];refine av (Yad (hu.ad hK) kl hm aC) ?_;rintro y H2 n2 k2 hy;have me:=k2.le;have iG:=hK.le;obtain⟨y1,y2,y3⟩:=hy.1.form;have e4:ag [V.aa] 0 [y]=[y]:=rfl;have kN:ab H2 n2 (H2.set n2 (.cells [y] 81 true)) (n2+1):=ab.refl.new _;obtain⟨v',h',w',f1,f2,f3,f5⟩:=(((ho.ad k2).ad kN).push (x:=.slice n2 0 1 (some 1) 1) (l:=p_ m k) (w:=W) (hy.ad kN) (by omega) (by simp[gb,St.row,aL]) (by simp[cn];omega));have e7:cn m k++[p_ m k]=cn m (k+1):=by simp[cn,List.range_succ]
   rw[e7]at f5;have b1:V.one y=true:=y1;simp(disch:=first|(simp;done)|omega|rfl) [-V.cells, -V.one,hf,h8,b1,y2,e4,f1];exact⟨i,by omega,by rw[f2];exact hW,((hK.trans k2).trans kN).then f3,k+1,by omega,by simp,f5⟩
 rintro _ r ⟨H,n1,W⟩ hr ⟨rfl,hW,hK,x,h5,ho⟩;simp only at hW hK ho;simp[h5,ax,hW,hK];exact ho
variable {a b:List Rat} {j n:Nat}
def zU(F:Rat->Rat->Rat)(a b:List Rat)(n:Nat):List Rat:=(List.range n).map fun k=>F (a[k]?.getD 0) (b[k]?.getD 0)
def Sg{F:Rat->Rat->Rat}(h:j<n):(zU F a b n)[j]?=some (F (a[j]?.getD 0) (b[j]?.getD 0)):=by simp[zU,h]
def KU{F:Rat->Rat->Rat}:(zU F a b n).length=n:=by simp[zU]
structure JnI (F:Rat->Rat->Rat) (h:T O) (N:Nat) (a b:List Rat) (m:Nat) (r:T V) (st:St):Prop where
 w:ay N st.w=[]
 ad:ab h N st.h st.n
 ex:∃(k:Nat) (cs:List (List V)),k+m=a.length/\r.get 14=some (.int .i64 k)/\N<st.n/\st.h.get N=some (.cells (cs.flatten++dm zF m) 123 true)/\cs.length=k/\∀(j:Nat) (q:Rat),j<k->(zU F a b a.length)[j]?=some q->∃c,cs[j]?=some c/\fV st.h st.n c q
def Yg4{h:T O}{N:Nat}{u v f:V}(F:Rat->Rat->Rat)(hu:kf h N u a)(hv:kf h N v b)(fX:a.length<=b.length)(hF:∀x∈a,∀y∈b,∀(h':T O) (n':Nat) (ca cb:List V),ab h N h' n'->fV h' n' ca x->fV h' n' cb y->ij A.C f [.agg ca,.agg cb] h' n' (fun z h2 n2=>Fc h2 n2 z (F x y)))(hl:a.length<1000000000):Fn A.C 92 [u,v,f] h N (fun x h' n'=>ec h' n' x (zU F a b a.length)):=by
 intro w;have l1:=hu.len;have l2:=hv.len;have c1:(64:Int)*(a.length:Int)<=140737488355328:=by omega
 have c2:(a.length:Int)<4611686018427387904:=by omega
 have kB:ab h N (h.set N (.cells (dm zF a.length) 123 true)) (N+1):=ab.refl.new _;rw[aN,A.k92 (by simp)];simp[A.b92,l1,c1,c2];refine cm [(8,8),(14,30)] (fun e r st=>e=.exit 0/\JnI F h N a b 0 r st) (JnI F h N a b) a.length ?_ ?_ ?_
 ·exact⟨by simp,kB,0,[],by omega,by simp,by show N<N+1;omega,by rw[T.ae,ar rfl];rfl,rfl,fun j q hj=>by omega⟩
 ·rintro m r ⟨H,n1,W⟩ hr hf ⟨hW,hK,t,cs,ht,qd,qu,hM,cX,jI⟩;simp only at hW hK hM qu jI;rw[bu];cases m with
  |zero=>
   obtain rfl:t=a.length:=by omega
   simp[A.yc,hr,hf,qd];exact⟨hW,hK,a.length,cs,by omega,by simp[qd],qu,hM,cX,jI⟩
  |succ m=>
   have aC:t<a.length:=by omega
   have cg:(t:Int)<(a.length:Int):=by omega
   have nK:t<b.length:=by omega
   have KP:(t:Int)<(b.length:Int):=by omega
   obtain⟨x,hx⟩:=bj aC;obtain⟨y,hy⟩:=bj nK;obtain⟨i,o,cc,e,rw,ca,q1,q2,q3,q4,q5⟩:=(hu.ad hK).at hx;obtain⟨i',o',Zx,e',rQ,cb,p1,p2,p3,p4,p5⟩:=(hv.ad hK).at hy;have hi:i<N:=by obtain⟨i2,_,_,_,_,_,z1,z2,_⟩:=hu.at hx;rw[q1]at z1;simp at z1;omega
   have jn:i'<N:=by obtain⟨i2,_,_,_,_,_,z1,z2,_⟩:=hv.at hy;rw[p1]at z1;simp at z1;omega
   simp[A.yc,hr,qd,l1,l2,cg,KP,q1,q2,q3,q4,p1,p2,p3,p4];refine DH (hF x (cF hx) y (cF hy) _ _ _ _ hK q5 p5) ?_;rintro _ H2 n2 k2 dT;obtain⟨c,rfl,hc⟩:=dT.c;have me:=k2.le;have iG:=hK.le;have tj:=(k2.get N qu).trans hM;have Kz:∀(j:Nat) (q:Rat),j<cs.length->(zU F a b a.length)[j]?=some q->∃c,cs[j]?=some c/\fV H2 n2 c q:=fun j q hj hq=>by obtain⟨c,g1,g2⟩:=jI j q (by omega) hq;exact⟨c,g1,g2.ad k2⟩
   obtain⟨f1,f2,f3⟩:=QQ (l:=zU F a b a.length) (by rw[KU];omega) Kz;have kg:=AH f1;obtain⟨e1,e2⟩:=hc.len;have iK:ag (cs.flatten++dm zF (m+1)) (t*4) c=(cs++[c]).flatten++dm zF m:=by rw[Hy,Vg (n:=4) (by rw[kg,cX]) rfl e1,MQ,uG]
   have hb4:t*4+4<=(cs.flatten++dm zF (m+1)).length:=by rw[jm,kg,Ydv];omega
   have mW:(V.agg c).cells=c:=rfl;have HC:ux (cs.flatten++dm zF (m+1)):=f2.app Vh;have pR:((cs++[c]).flatten++dm zF m).length=(cs.flatten++dm zF (m+1)).length:=by rw[Hy,MQ];simp[e1,zF];omega
   generalize cs.flatten++dm zF (m+1)=X at*;obtain⟨Y,hY⟩:∃Y,(cs++[c]).flatten++dm zF m=Y:=⟨_,rfl⟩;rw[hY]at iK pR;have d1:N<n2:=by omega
   have d2:¬i=N:=by omega
   have d3:¬i'=N:=by omega
   simp(disch:=first|(simp;done)|omega|rfl) [-V.cells, -V.one,hf,qd,tj,bO,mW,e1,e2,hb4,iK];have mi:¬N<N:=by omega
   refine⟨m,by omega,⟨by simp[d1,ay,hW],(hK.trans k2).set (aO N),t+1,cs++[c],by omega,by simp,d1,by show T.get _ N=_;rw[T.ae,ar rfl,hY],by simp[cX],fun j q' hj uw=>?_⟩⟩;by_cases qU:j<t
   ·obtain⟨c',g1,g2⟩:=jI j q' qU uw;exact⟨c',by rw[mj (by omega)];exact g1,(g2.ad k2).aI tj HC pR⟩
   obtain rfl:j=t:=by omega
   rw[Sg aC,hx,hy]at uw;simp only[g_,aq]at uw;subst uw;exact⟨c,by rw[pY (by omega),cX];simp,hc.aI tj HC pR⟩
 rintro _ r ⟨H,n1,W⟩ hr ⟨rfl,hW,hK,t,cs,ht,qd,qu,hM,cX,jI⟩;simp only at hW hK hM qu jI;obtain rfl:t=a.length:=by omega
 simp[hr,ax,hW,hK];have hz:dm zF 0=[]:=by simp[dm]
 obtain⟨f1,_,_⟩:=QQ (l:=zU F a b a.length) (by rw[KU];omega) (fun j q hj hq=>jI j q (by omega) hq);have kg:=AH f1;rw[hz,zZ]at hM;refine⟨⟨cs,.inr ⟨N,0,some a.length,cs.flatten,_,true,by rw[cX],qu,hM,fun j x hx=>by rw[yE];exact PW f1 hx,by omega,fun k hk=>by simp at hk;omega⟩,by rw[KU];exact cX,fun j q hq=>jI j q (by have:=gZ hq;rw[KU]at this;omega) hq⟩,fun i hi=>?_⟩;simp[dk]at hi;subst hi;exact⟨_,_,hM⟩
def Ylv{h:T O}{N:Nat}{u v:V}{k:Nat}(hu:kf h N u a)(hv:kf h N v b)(fX:a.length<=b.length)(ha:∀q∈a,Qb j q)(hb:∀q∈b,Qb k q)(hj:j<=400000000)(hk:k<=400000000)(hl:a.length<1000000000):Fn A.C 92 [u,v,.func 105 [] []] h N (fun x h' n'=>ec h' n' x (Lc a b a.length)):=
 Yg4 (fun x y=>x*y) hu hv fX (fun x hx y hy h' n' ca cb _ q5 p5=>by
  have HJ:=ha x hx
  have qO:=hb y hy
  have w1:=vU HJ.1
  have w2:=vU (z:=(x.den:Int)) (k:=j) (by rw[eh];exact HJ.2)
  have w3:=vU qO.1
  have w4:=vU (z:=(y.den:Int)) (k:=k) (by rw[eh];exact qO.2)
  exact(Sf q5.fc p5.fc (by omega) (by omega) (by omega) (by omega))) hl
def Yue{k:Nat}(ha:∀q∈a,Qb j q)(hb:∀q∈b,Qb k q)(hj:1<=j)(hk:1<=k):∀q∈Lc a b n,Qb (j+k) q:=fun q hq=>by
 unfold Lc at hq
 obtain⟨i,_,rfl⟩:=bF.1 hq
 exact(rO ha hj i).mul (rO hb hk i)
variable {l:List aD} {m:List (List aD)} {n:Nat}
def A.b16:=A.q Tryz.f16
def A.k16:=@A.kk 16 22 [.tmp 4,.tmp 5] A.b16 (by kernel_rfl) rfl
def cv(l:List aD):List Rat:=l.map jh
def bC(m:List (List aD)):List (List Rat):=m.map cv
def uD:∀{l:List Int},bp l=0->∀x∈l,x=0
 |[],_,x,hx=>by simp at hx
 |y::l,h,x,hx=>by
  simp only[bp]at h
  split at h
  ·rename_i h0
   rcases iW.1 hx with rfl|hx
   ·exact h0
   ·exact uD h x hx
  ·rename_i h0;exact absurd h h0
def nF(l:List aD):Prop:=∀s∈l,aS s=0/\s.length<=24
def nF.DL(h:nF l):(cv l).map aP=l:=by
 unfold cv;rw[List.map_map];conv=>rhs;rw[<-List.map_id l]
 apply AE;intro s hs;exact(HW (h s hs).1).1
def nF.qb(h:nF l):∀q∈cv l,Qb 100 q:=fun q hq=>by
 obtain⟨s,hs,rfl⟩:=bF.1 hq
 exact Ywq (h s hs).1 (h s hs).2
def nF.sl{h:T O}{N:Nat}{v:V}(hs:Sl h N v (strs l))(hl:nF l):Tx h N v (cv l):=by unfold Tx tx;rw[hl.DL];exact hs
def dq.rat{h:T O}{N:Nat}{v:V}(hs:dq h N v m)(hm:∀r∈m,nF r):mX h N v (bC m):=by
 apply dq.txm;have:((bC m).map fun l=>l.map aP)=m:=by
  unfold bC;rw[List.map_map];conv=>rhs;rw[<-List.map_id m]
  apply AE;intro r hr;exact(hm r hr).DL
 rw[this];exact hs
def Yag(h:dj l n=0)(hs:dJ 6 l=true):l.length=n/\nF l:=by
 unfold dj at h;split at h
 ·rename_i hn;refine⟨hn,fun s iY=>?_⟩;have h1:=uD h _ (bF.2 ⟨s,iY,rfl⟩);have h2:l.all pr=true:=by unfold dJ at hs;rw[gI]at hs;exact hs.2
  have h3:=jY.1 h2 s iY;simp[pr]at h3;exact⟨by omega,h3⟩
 exact absurd h (by decide)
def Ztv(h:dJ n l=true):qh l.length n=true:=by unfold dJ at h;rw[gI]at h;exact h.1
structure zX (m:List (List aD)) (n:Nat):Prop where
 pos:0<m.length
 le:m.length<=6
 n1:0<n
 n6:n<=6
 row:∀r∈m,r.length=n/\nF r
def zX.rat(h:zX m n):∀r∈bC m,r.length=n/\∀q∈r,Qb 100 q:=fun r hr=>by
 obtain⟨s,hs,rfl⟩:=bF.1 hr
 exact⟨by simp[cv,(h.row s hs).1],(h.row s hs).2.qb⟩
def Zqu(h:nE 6 6 m=true):qh m.length 6=true/\∀r∈m,dJ 6 r=true:=by unfold nE at h;rw[gI,jY]at h;exact h
def Yv1(h:0<m.length):∃r∈m,ba m=r.length:=by obtain⟨r,hr⟩:=bj h;exact⟨r,cF hr,by simp[ba,hr]⟩
def Zpj{k:Nat}(h:qh k 6=true)(h2:k<=64):k<=6:=by simp[qh]at h;omega
def Gg(h:dJ 6 l=true):l.length<100000/\∀s∈l,s.length<=100000:=by refine⟨by have:=Zzq (Ztv h) (by omega);omega,fun s hs=>?_⟩;unfold dJ at h;rw[gI]at h;have h3:=jY.1 h.2 s hs;simp[pr]at h3;omega
def Ls(h:nE 6 6 m=true):m.length<100000/\∀r∈m,r.length<100000/\∀s∈r,s.length<=100000:=by obtain⟨s1,s2⟩:=Zqu h;exact⟨by have:=Zzq s1 (by omega);omega,fun r hr=>Gg (s2 r hr)⟩
def NR(e:Int)(l:List Rat)(x:V)(h:T O)(n:Nat):Prop:=(e≠0/\x=.aV [.aa,.int .i64 e])\/(e=0/\((yf l=true/\x=.aV [.aa,.int .i64 4])\/(yf l=false/\∃v,x=.aV [v,.int .i64 0]/\Tx h n v l)))
def Yzb(m:List (List aD))(l:List aD):Int:=bp [iF m 64 64,dj l (ba m)]
def Nt{a b:List Rat}{j k:Nat}(ha:∀q∈a,Qb j q)(hb:∀q∈b,Qb k q)(hj:1<=j)(hk:1<=k)(hn:a.length<=n):Qb (n*(j+k+1)+1) (e_ a b):=(Zxv ha hb hj hk a.length).mono (by have:=nf (j+k+1) hn;omega)
def Ta{a b:V}{x y:Int}{P:V->Int->Nat->Prop}(h0:P a x 0)(h1:x=0->P b y 1):∀(j:Nat) (f:V) (e:Int),[a,b][j]?=some f->[x,y][j]?=some e->(∀(i:Nat) (z:Int),i<j->[x,y][i]?=some z->z=0)->P f e j
 |0,f,e,hf,he,_=>by simp at hf he;subst hf he;exact h0
 |1,f,e,hf,he,hz=>by simp at hf he;subst hf he;exact h1 (hz 0 x (by omega) rfl)
 |j+2,f,e,hf,_,_=>by simp at hf
def Yta{l:List aD}{z:Int}(h:bp (l.map (rI z))=0)(hs:dJ 6 l=true):nF l:=fun s iY=>by
 have h1:=uD h _ (bF.2 ⟨s,iY,rfl⟩)
 unfold dJ at hs
 rw[gI]at hs
 have h3:=jY.1 hs.2 s iY
 simp[pr]at h3
 refine⟨?_,h3⟩
 unfold rI at h1
 split at h1
 ·assumption
 ·omega
def A.b18:=A.q Tryz.f18
def A.k18:=@A.kk 18 29 [.tmp 4,.tmp 5] A.b18 (by kernel_rfl) rfl
def Ykr{a b c d:V}{x y z t:Int}{P:V->Int->Prop}(h0:P a x)(h1:x=0->P b y)(h2:x=0->y=0->P c z)(h3:x=0->y=0->z=0->P d t):∀(j:Nat) (f:V) (e:Int),[a,b,c,d][j]?=some f->[x,y,z,t][j]?=some e->(∀(i:Nat) (s:Int),i<j->[x,y,z,t][i]?=some s->s=0)->P f e
 |0,f,e,hf,he,_=>by simp at hf he;subst hf he;exact h0
 |1,f,e,hf,he,hz=>by simp at hf he;subst hf he;exact h1 (hz 0 x (by omega) rfl)
 |2,f,e,hf,he,hz=>by simp at hf he;subst hf he;exact h2 (hz 0 x (by omega) rfl) (hz 1 y (by omega) rfl)
 |3,f,e,hf,he,hz=>by simp at hf he;subst hf he;exact h3 (hz 0 x (by omega) rfl) (hz 1 y (by omega) rfl) (hz 2 z (by omega) rfl)
 |j+4,f,e,hf,_,_=>by simp at hf
def S7(m:List (List aD))(l:List aD):List Int:=[bp [if m.length=0 then 12 else 0,if 16<m.length then 5 else 0],bp [if ba m=0 then 12 else 0,if 16<ba m then 5 else 0],bp (m.map fun x=>dj x (ba m)),dj l m.length]
def Yzn(m:List (List aD))(l:List aD):Int:=bp (S7 m l)
def Yij{n:Nat}(h:bp [if n=0 then 12 else 0,if 16<n then 5 else 0]=0):0<n/\n<=16:=by
 have h1:=uD h (if n=0 then 12 else 0) (by simp);have h2:=uD h (if 16<n then 5 else 0) (by simp);constructor
 ·apply Nat.pos_of_ne_zero;intro h0;rw[ar h0]at h1;exact absurd h1 (by decide)
 apply zB;intro h0;rw[ar h0]at h2;exact absurd h2 (by decide)
def TP(e:Int)(l:List Rat)(v:V)(c:Int)(h:T O)(n:Nat):Prop:=(e≠0/\v=.aa/\c=e)\/(e=0/\((yf l=true/\v=.aa/\c=4)\/(yf l=false/\c=0/\Tx h n v l)))
def A.b154:=A.q Tryz.f154
def A.k154:=@A.kk 154 9 [.cell 2 (some 4)] A.b154 (by kernel_rfl) rfl
def A.b93:=A.q Tryz.f93
def A.k93:=@A.kk 93 9 [.cell 4 (some 4)] A.b93 (by kernel_rfl) rfl
def Ysb{x:V}{q:Rat}{h:T O}{N:Nat}(hx:Fc h N x q)(l1:wl q.num<1000000000):Fn A.C 154 [x] h N (fun v h' n'=>Fc h' n' v (-q)):=by
 intro w;rw[aN,A.k154 (by simp)];obtain⟨n1,u1,n2,u2,rfl,s1,s2⟩:=hx;have o1:=dL s1;have o2:=dL s2;unfold V.one at o1 o2;have kB:ab h N ((h.set N (.cells [.int .i64 n1,u1,.int .i64 n2,u2] 123 true)).set (N+1) (.cells [.int .i64 0,.aa,.int .i64 0,.aa] 123 true)) (N+2):=aM (aM ab.refl _) _;simp[A.b154,aQ,aL,o1,o2];generalize jz:(h.set N (.cells [.int .i64 n1,u1,.int .i64 n2,u2] 123 true)).set (N+1) (.cells [.int .i64 0,.aa,.int .i64 0,.aa] 123 true)=hB at*;have b1:hB.get N=some (.cells [.int .i64 n1,u1,.int .i64 n2,u2] 123 true):=by rw[<-jz];simp
 have b3:hB.get (N+1)=some (.cells [.int .i64 0,.aa,.int .i64 0,.aa] 123 true):=by rw[<-jz];simp
 refine av (MG (s1.ad kB) (by omega)) ?_;rintro v5 h1 m1 k1 q1;obtain⟨n3,u3,rfl⟩:∃n3 u3,v5=.agg [.int .i64 n3,u3]:=by rcases q1 with⟨rfl,_⟩|⟨_,_,_,_,rfl,_⟩<;>exact⟨_,_,rfl⟩
 have o3:=dL q1;unfold V.one at o3;have fL:=k1.le;have f1:=(k1.get N (by omega)).trans b1;have f3:=(k1.get (N+1) (by omega)).trans b3;have e1:N<m1:=by omega
 have e2:N+1<m1:=by omega
 simp[f1,f3,e1,e2,aQ,aL,ag,bO,o2,o3,cQ.cU,ax];have kk:=kB.trans k1;exact⟨kk.set (by omega),n3,u3,n2,u2,rfl,by rw[Rat.neg_num];exact q1.aI (i:=N+1) f3 pe rfl,by rw[Rat.neg_den];exact((s2.ad kB).ad k1).aI (i:=N+1) f3 pe rfl⟩
def Ysa{x y:V}{p q:Rat}{h:T O}{N:Nat}(hx:Fc h N x p)(hy:Fc h N y q)(l1:wl p.num<1000000000)(l2:wl (p.den:Nat)<1000000000)(l3:wl q.num<1000000000)(l4:wl (q.den:Nat)<1000000000):Fn A.C 93 [x,y] h N (fun v h' n'=>Fc h' n' v (p-q)):=by
 intro w;rw[aN,A.k93 (by simp)];have fK:=hx;have tO:=hy;obtain⟨n1,u1,n2,u2,rfl,s1,s2⟩:=hx;obtain⟨n3,u3,n4,u4,rfl,s3,s4⟩:=hy;have o1:=dL s1;have o2:=dL s2;have o3:=dL s3;have o4:=dL s4;unfold V.one at o1 o2 o3 o4;have kB:ab h N (((h.set N (.cells [.int .i64 n1,u1,.int .i64 n2,u2] 123 true)).set (N+1) (.cells [.int .i64 n3,u3,.int .i64 n4,u4] 123 true)).set (N+2) (.cells [.int .i64 0,.aa,.int .i64 0,.aa] 123 true)) (N+3):=aM (aM (aM ab.refl _) _) _;simp[A.b93,aQ,aL,o1,o2,o3,o4];generalize jz:((h.set N (.cells [.int .i64 n1,u1,.int .i64 n2,u2] 123 true)).set (N+1) (.cells [.int .i64 n3,u3,.int .i64 n4,u4] 123 true)).set (N+2) (.cells [.int .i64 0,.aa,.int .i64 0,.aa] 123 true)=hB at*;have b1:hB.get N=some (.cells [.int .i64 n1,u1,.int .i64 n2,u2] 123 true):=by rw[<-jz];simp
 have b2:hB.get (N+1)=some (.cells [.int .i64 n3,u3,.int .i64 n4,u4] 123 true):=by rw[<-jz];simp
 have b3:hB.get (N+2)=some (.cells [.int .i64 0,.aa,.int .i64 0,.aa] 123 true):=by rw[<-jz];simp
 refine av (Ysb (tO.ad kB) l3) ?_;rintro v5 h1 m1 k1 q1;have fL:=k1.le;have f1:=(k1.get N (by omega)).trans b1;have f2:=(k1.get (N+1) (by omega)).trans b2;have f3:=(k1.get (N+2) (by omega)).trans b3;have e1:N<m1:=by omega
 have e2:N+1<m1:=by omega
 simp;refine av (Yhl ((fK.ad kB).ad k1) q1 l1 l2 (by rw[Rat.neg_num,Qg];exact l3) (by rw[Rat.neg_den];exact l4)) ?_;rintro v7 h3 m3 k3 hv;rw[<-Rat.sub_eq_add_neg]at hv;obtain⟨n5,u5,n6,u6,rfl,t1,t2⟩:=hv;have o5:=dL t1;have o6:=dL t2;unfold V.one at o5 o6;have jG:=k3.le;have f5:=(k3.get (N+2) (by omega)).trans f3;have e3:N+2<m3:=by omega
 simp[f5,e3,aQ,aL,ag,bO,o5,o6,cQ.cU,ax];have kk:=(kB.trans k1).trans k3;exact⟨kk.set (by omega),n5,u5,n6,u6,rfl,t1.aI (i:=N+2) f5 pe rfl,t2.aI (i:=N+2) f5 pe rfl⟩
def Qb.DF{q:Rat}{k:Nat}(h:Qb k q):wl q.num<=k/\wl (q.den:Nat)<=k:=⟨vU h.1,vU (z:=(q.den:Int)) (k:=k) (by rw[eh];exact h.2)⟩
variable {N:Nat} {h:T O} {l:List aD} {m:List (List aD)} {u v:V}
def A.b43:=A.q Tryz.f43
def A.k43:=@A.kk 43 6 [.tmp 2] A.b43 (by kernel_rfl) rfl
def A.b134:=A.q Tryz.f134
def A.k134:=@A.kk 134 12 [.tmp 4] A.b134 (by kernel_rfl) rfl
def A.b132:=A.q Tryz.f132
def A.k132:=@A.kk 132 4 [.tmp 1] A.b132 (by kernel_rfl) rfl
def A.b133:=A.q Tryz.f133
def A.k133:=@A.kk 133 7 [.tmp 2] A.b133 (by kernel_rfl) rfl
def A.b47:=A.q Tryz.f47
def A.k47:=@A.kk 47 9 [.tmp 4] A.b47 (by kernel_rfl) rfl
def Zy5{l:List (List aD)}(hs:dq h N v l)(hl:l.length<100000)(hx:∀x∈l,x.length<100000/\∀s∈x,s.length<=100000):Fn A.C 43 [v] h N (fun u _ _=>u=.int .i64 (iF l 64 16)):=by intro w;rw[aN,A.k43 (by simp)];simp[A.b43,ag];refine av (Zy4 (a:=64) (b:=16) hs hl hx) ?_;rintro _ H2 n2 k2 rfl;simp[ax];exact k2
def Yaf(h:iF m 64 16=0)(hs:nE 6 6 m=true):zX m (ba m):=by
 obtain⟨s1,s2⟩:=Zqu hs;unfold iF at h;split at h
 ·exact absurd h (by decide)
 split at h
 ·exact absurd h (by decide)
 rename_i h1 h2;have hp:0<m.length:=by omega
 obtain⟨r0,fv,e0⟩:=Yv1 hp;refine⟨hp,Zpj s1 (by omega),by omega,?_,fun r hr=>Yag (uD h _ (bF.2 ⟨r,hr,rfl⟩)) (s2 r hr)⟩;rw[e0];exact Zpj (Ztv (s2 r0 fv)) (by omega)
def Yu6{n:Nat}(ht:Sl h N v (strs l))(nW:l.length<100000)(DY:∀s∈l,s.length<=100000):Fn A.C 134 [v,.int .i64 n] h N (fun z _ _=>z=.int .i64 (ra l n 1)):=by
 intro w;have ll:=ht.len;rw[m7]at ll;have sg:∀w,A.C.call (.func 96 [] []) [.int .i64 1] ⟨h,N,w⟩=some (.func 160 [] [.ptr N 0],⟨h.set N (.cells [.int .i64 1] 3 true),N+1,w⟩):=fun w=>by apply Call.eq;rw[aN,A.k96 (by simp)];simp[A.b96]
 have e1:((l.length:Int)=(n:Int))=(l.length=n):=by apply propext;omega
 rw[aN,A.k134 (by simp)];by_cases c:l.length=n
 ·subst c;simp[A.b134,ll,sg];have k1:ab h N (h.set N (.cells [.int .i64 1] 3 true)) (N+1):=ab.refl.new _;refine av (Yhs (rI 1) (ht.ad k1) nW fun s hs h' n' hk=>Yba (z:=1) (e:=3) (rw:=true) (by rw[hk.get N (by omega)];simp) (by have:=hk.le;omega) (DY s hs)) ?_;rintro _ H2 n2 k2 rfl;simp[ax,ra];exact k1.trans k2
 simp[A.b134,ll,e1,c,ax,ra];exact ab.refl
def Ysz{q:Nat}{l:List aD}{eq:TypeId}{wq:Bool}(si:h.get q=some (.cells [u] eq wq))(yp:q<N)(hs:dq h N u m)(kl:m.length<100000)(dh:∀x∈m,x.length<100000/\∀s∈x,s.length<=100000):ij A.C (.func 132 [] [.ptr q 0]) [] h N (fun z _ _=>z=.int .i64 (iF m 64 16)):=by intro w;rw[aN,A.k132 (by simp)];simp[A.b132,si];refine av (Zy5 hs kl dh) ?_;rintro _ H2 n2 k2 rfl;simp[ax];exact k2
def Ysy{p q:Nat}{ep eq:TypeId}{wp wq:Bool}(mZ:h.get p=some (.cells [v] ep wp))(Lj:p<N)(si:h.get q=some (.cells [u] eq wq))(yp:q<N)(hs:dq h N u m)(kl:m.length<100000)(dh:∀x∈m,x.length<100000/\∀s∈x,s.length<=100000)(ht:Sl h N v (strs l))(nW:l.length<100000)(DY:∀s∈l,s.length<=100000):ij A.C (.func 133 [] [.ptr p 0,.ptr q 0]) [] h N (fun z _ _=>z=.int .i64 (ra l m.length 1)):=by intro w;have ml:=hs.len;rw[aN,A.k133 (by simp)];simp[A.b133,si,mZ,ml];refine av (Yu6 ht nW DY) ?_;rintro _ H2 n2 k2 rfl;simp[ax];exact k2
def dq.one(hm:dq h N u m):V.one u=true/\V.cells u=[u]:=by obtain⟨us,⟨_,rfl|rfl⟩|⟨i,o,cp,c,e,rw,rfl,_⟩,_⟩:=hm<;>exact⟨rfl,rfl⟩
def zr(m:List (List aD))(l:List aD):Int:=bp [iF m 64 16,ra l m.length 1]
def Y0(hm:dq h N u m)(hl:Sl h N v (strs l))(m1:m.length<100000)(m2:∀x∈m,x.length<100000/\∀s∈x,s.length<=100000)(l1:l.length<100000)(l2:∀s∈l,s.length<=100000):Fn A.C 47 [u,v] h N (fun z _ _=>z=.int .i64 (zr m l)):=by
 intro w;have o2:=hl.form.one;have o3:=hl.form.cells;obtain⟨o4,o5⟩:=hm.one;rw[aN,A.k47 (by simp)];unfold V.one at o2 o4;unfold V.cells at o3 o5;simp[A.b47,o2,o3,o4,o5,ag];generalize hH:((h.set N (.cells [u] 22 true)).set (N+1) (.cells [v] 23 true)).set (N+1+1) (.cells [.func 132 [] [.ptr N 0],.func 133 [] [.ptr (N+1) 0,.ptr N 0]] 99 true)=H;have kB:ab h N H (N+1+1+1):=by rw[<-hH];exact((ab.refl.new _).new _).new _
 have g0:H.get N=some (.cells [u] 22 true):=by rw[<-hH];simp
 have g1:H.get (N+1)=some (.cells [v] 23 true):=by rw[<-hH];simp
 have g2:H.get (N+1+1)=some (.cells [.func 132 [] [.ptr N 0],.func 133 [] [.ptr (N+1) 0,.ptr N 0]] 99 true):=by rw[<-hH];simp
 clear hH;have hs:Sl H (N+1+1+1) (.slice (N+1+1) 0 2 (some 2) 1) [.func 132 [] [.ptr N 0],.func 133 [] [.ptr (N+1) 0,.ptr N 0]]:=Sl.row (by omega) g2 rfl (fun k hk=>by simp at hk;omega);have key:=NV (l:=[iF m 64 16,ra l m.length 1]) hs rfl (by simp) (Ta (P:=fun f e _=>∀h' n',ab H (N+1+1+1) h' n'->ij A.C f [] h' n' (fun u _ _=>u=.int .i64 e)) (fun h' n' hk=>Ysz (l:=l) ((hk.get N (by omega)).trans g0) (by have:=hk.le;omega) ((hm.ad kB).ad hk) m1 m2) (fun hz h' n' hk=>Ysy ((hk.get (N+1) (by omega)).trans g1) (by have:=hk.le;omega) ((hk.get N (by omega)).trans g0) (by have:=hk.le;omega) ((hm.ad kB).ad hk) m1 m2 ((hl.ad kB).ad hk) l1 l2));change Fn A.C 60 _ H _ (fun u _ _=>u=.int .i64 (zr m l))at key;refine av key ?_;rintro _ H2 n2 k2 rfl;simp[ax];exact kB.trans k2
def Ix{m:List (List aD)}{w:List aD}(h:zr m w=0)(sm:nE 6 6 m=true)(sw:dJ 6 w=true):zX m (ba m)/\w.length=m.length/\nF w:=by
 have h1:=uD h (iF m 64 16) (by simp);have h2:=uD h (ra w m.length 1) (by simp);refine⟨Yaf h1 sm,?_⟩;unfold ra at h2;split at h2
 ·rename_i e;exact⟨e,Yta h2 sw⟩
 exact absurd h2 (by decide)
def Yuu{h:T O}{N:Nat}{w:List Nat}{i o:Nat}{cp:Option Nat}{c l:List V}{e:TypeId}{rw:Bool}(h3:h.get i=some (.cells c e rw))(h4:∀j,j<l.length->c[o+j]?=l[j]?)(h5:o+l.length<=c.length):gb ⟨h,N,w⟩ 1 (.slice i o l.length cp 1)=some (l.length,l):=by
 have:aL c o (l.length*1)=some l:=by
  unfold aL;rw[ar (by omega),yy];congr 1;apply ph;intro j;by_cases hj:j<l.length
  ·rw[jL,ar hj,fF];exact h4 j hj
  rw[fW (by simp;omega),fW (by omega)]
 simp only[gb,if_true,St.row,h3,this]
def A.b22:=A.q Tryz.f22
def A.k22:=@A.kk 22 5 [.tmp 2] A.b22 (by kernel_rfl) rfl
def Ykf{h:T O}{N:Nat}{v:V}{l:List (List aD)}(hs:dq h N v l)(hl:l.length<100000)(hx:∀x∈l,x.length<100000/\∀s∈x,s.length<=100000):Fn A.C 22 [v] h N (fun u _ _=>u=.int .i64 (iF l 64 16)):=by intro w;rw[aN,A.k22 (by simp)];simp[A.b22];refine av (Ys7 (a:=64) (b:=16) hs hl hx) ?_;rintro _ H2 n2 k2 rfl;simp[ax];exact k2
end
end Go.Mx
