/-reconstruct-/
import Derived.Test.YtokjleejipaidaaGreatDoorVaE
set_option linter.all false
namespace Go.Mx
noncomputable section
open Go Go.Proofs
variable {N k:Nat} {h:T O} {m:List (List Rat)} {u v:V}
set_option maxRecDepth 1000000
def A.b67:=A.q Tryz.f67
def A.k67:=@A.kk 67 11 [.tmp 4] A.b67 (by kernel_rfl) rfl
def A.b68:=A.q Tryz.f68
def A.k68:=@A.kk 68 8 [.tmp 4] A.b68 (by kernel_rfl) rfl
def A.b149:=A.q Tryz.f149
def A.k149:=@A.kk 149 8 [.cell 3 (some 4)] A.b149 (by kernel_rfl) rfl
def A.b40:=A.q Tryz.f40
def A.k40:=@A.kk 40 5 [.tmp 2] A.b40 (by kernel_rfl) rfl
def Ynd{a b:List Rat}{j:Nat}(hu:kf h N u a)(hv:kf h N v b)(ec:a.length<=b.length)(ha:∀q∈a,Qb j q)(hb:∀q∈b,Qb k q)(hj:1<=j)(hk:1<=k)(hl:a.length*(j+k+1)+j+k+1<=400000000):mw A.C (.func 148 [v] []) [u] h N (fun x h' n'=>Fc h' n' x (lK a b)):=by
 intro w
 have kB:ab h N (h.set N (.cells zF 108 true)) (N+1):=ab.refl.new _
 rw[aM,A.k148 (by simp)]
 simp[A.b148]
 refine ay (Ytz (hu.ad kB) (hv.ad kB) ec ha hb hj hk hl) ?_
 rintro _ h1 n1 k1 hz
 obtain⟨c,rfl,hc⟩:=hz.c
 have tL:=k1.le
 have g1:=k1.get N (by omega)
 rw[T.ag,ax rfl]at g1
 obtain⟨e1,e2⟩:=hc.len
 have ke:(V.agg c).cells=c:=rfl
 have e4:ae zF 0 c=c:=by unfold ae;rw[e1];simp[e1,zF]
 have Cq:tM zF:=by intro x hx m;simp[zF]at hx;rcases hx with rfl|rfl|rfl|rfl<;>simp
 have kk:=(kB.trans k1).set (h:=h) (n:=N) (i:=N) (o:=.cells c 108 true) (aO N)
 have oZ:=(hc.aH (e1:=108) (w1:=true) (c1:=c) g1 Cq (by rw[e1];rfl)).fc
 have s0:aC c 0 4=some c:=by unfold aC;rw[e1];simp;exact fb (by omega)
 have au:N<n1:=by omega
 unfold zF at e4
 simp[-V.cells, -V.one,ke,e1,e2,e4,s0,g1,bD,az,cn.cr]
 exact⟨kk,oZ⟩
def fK(h:T O)(N:Nat)(v:V)(m:List (List Rat)):Prop:=∃us:List V,Sl h N v us/\us.length=m.length/\∀(j:Nat) (l:List Rat),m[j]?=some l->∃u,us[j]?=some u/\dT h N u l
def fK.ad{h':T O}{N':Nat}(s:fK h N v m)(k:ab h N h' N'):fK h' N' v m:=by
 obtain⟨us,h1,h2,h3⟩:=s
 refine⟨us,h1.ad k,h2,fun j l hl=>?_⟩
 obtain⟨u,g1,g2⟩:=h3 j l hl
 exact⟨u,g1,g2.ad k⟩
def fK.len(s:fK h N v m):pA v=some m.length:=by
 obtain⟨us,h1,h2,_⟩:=s
 rw[h1.len,h2]
def kf.form{l:List Rat}(s:kf h N v l):V.one v=true/\V.cells v=[v]/\NW v:=by
 obtain⟨cs,⟨_,rfl|rfl⟩|⟨i,o,cp,c,e,rw,rfl,_⟩,_⟩:=s
 ·exact⟨rfl,rfl,fun m=>by simp⟩
 ·exact⟨rfl,rfl,fun m=>by simp⟩
 ·exact⟨rfl,rfl,fun m=>by simp⟩
def Zrn{k0:Nat}(hs:fA h N v m)(hl:m.length<1000000000)(hm:∀l∈m,l.length<1000000000/\∀q∈l,Qb k0 q)(kg:k0<=4000):Fn A.C 40 [v] h N (fun u h' n'=>fK h' n' u m):=by
 intro w
 obtain⟨us,h1,h2,h3⟩:=hs
 rw[aM,A.k40 (by simp)]
 simp[A.b40]
 refine ay (Yjt (Q:=fun j h n u=>∀l,m[j]?=some l->dT h n u l) NW (fun j h n h' n' c u hq k hd l hl=>(hq l hl).bO k hd (by simp)) h1 (by omega) ?_) ?_
 ·intro j x hx h' n' hk
  obtain⟨l,hl⟩:=a_ (l:=m) (k:=j) (by have:=jt hx;omega)
  obtain⟨u,g1,g2⟩:=h3 j l hl
  rw[hx]at g1
  obtain rfl:x=u:=by simpa using g1
  obtain⟨b1,b2⟩:=hm l (bM hl)
  refine fun w=>(Z4 (k0:=k0) (g2.ad hk) b1 b2 kg w).mono fun y st=>?_
  rintro⟨q1,q2,q3⟩
  obtain⟨f1,f2,f3⟩:=q3.1.form
  refine⟨q1,q2,y,rfl,rfl,by simp only[List.all_cons,List.all_nil,f1,Bool.and_true],by simpa using f3,fun l' jf=>?_⟩
  rw[hl]at jf
  obtain rfl:l=l':=by simpa using jf
  exact q3
 ·rintro u h4 n4 k4 ⟨out,o1,o2,o3⟩
  simp[az]
  refine⟨k4,?_⟩
  have hx:∀x∈out,∃y,x=[y]:=fun x hx=>by
   have:=o1.1 x hx
   cases x with
   |nil=>simp at this
   |cons y t=>cases t with
    |nil=>exact⟨y,rfl⟩
    |cons a b=>simp at this
  obtain⟨ys,MD⟩:∃ys:List V,out=ys.map fun y=>[y]:=by
   clear o1 o2 o3
   induction out with
   |nil=>exact⟨[],rfl⟩
   |cons x t ih=>
    obtain⟨y,rfl⟩:=hx x (by simp)
    obtain⟨ys,rfl⟩:=ih fun x jv=>hx x (by simp[jv])
    exact⟨y::ys,rfl⟩
  subst MD
  refine⟨ys,Sn.one.1 o1.sn,by simpa[h2]using o2,fun j l hl=>?_⟩
  obtain⟨y,g1,g2⟩:=o3 j (by have:=jt hl;omega)
  refine⟨y,?_,g2 l hl⟩
  rw[fm]at g1
  cases hy:ys[j]? with
  |none=>rw[hy]at g1;simp at g1
  |some z=>rw[hy]at g1;simpa using g1
def Yey{f:V}(F:List Rat->Rat)(hs:fK h N v m)(hl:m.length<1000000000)(hf:∀l∈m,∀u h' n',ab h N h' n'->dT h' n' u l->mw A.C f [u] h' n' (fun x h2 n2=>Fc h2 n2 x (F l))):Fn A.C 93 [v,f] h N (fun u h' n'=>dT h' n' u (m.map F)):=by
 obtain⟨us,h1,h2,h3⟩:=hs
 have key:=Yjw (f:=f) (Q:=fun j h n c=>∀q,(m.map F)[j]?=some q->fu h n c q) NW (fun j h n h' n' c u hq k hd q pT=>(hq q pT).bO k hd) h1 (by omega) ?_
 ·intro w
  refine(key w).mono fun u st=>?_
  rintro⟨q1,q2,out,o1,o2,o3⟩
  exact⟨q1,q2,VQ o1 (by simpa[h2]using o2) fun j hj=>o3 j (by simp at hj;omega)⟩
 ·intro j x hx h' n' hk
  obtain⟨l,hl⟩:=a_ (l:=m) (k:=j) (by have:=jt hx;omega)
  obtain⟨u,g1,g2⟩:=h3 j l hl
  rw[hx]at g1
  obtain rfl:x=u:=by simpa using g1
  refine fun w=>(hf l (bM hl) x h' n' hk (g2.ad hk) w).mono fun y st=>?_
  rintro⟨q1,q2,q3⟩
  obtain⟨c,rfl,hc⟩:=q3.c
  refine⟨q1,q2,c,rfl,hc.len.1,hc.len.2,hc.Ls,fun q hq=>?_⟩
  simp[hl]at hq
  rw[<-hq]
  exact hc
def Ydy{b:List Rat}{j n:Nat}(hu:fK h N u m)(hv:kf h N v b)(hm:∀r∈m,r.length=n/\∀q∈r,Qb j q)(hn:n<=b.length)(hb:∀q∈b,Qb k q)(hj:1<=j)(hk:1<=k)(hl:n*(j+k+1)+j+k+1<=400000000)(mj:m.length<100000):Fn A.C 67 [u,v] h N (fun x h' n'=>dT h' n' x (m.map fun r=>lK r b)):=by
 intro w
 rw[aM,A.k67 (by simp)]
 simp[A.b67]
 refine ay (Yey (fun r=>lK r b) hu (by omega) fun l gj x h' n' eF hx=>?_) ?_
 ·obtain⟨b1,b2⟩:=hm l gj
  exact Ynd hx.1 (hv.ad eF) (by omega) b2 hb hj hk (by rw[b1];exact hl)
 ·rintro x h4 n4 k4 hx
  simp[az]
  exact⟨k4,hx⟩
def Yq1{p:Nat}{l:List Rat}{e:TypeId}{rw:Bool}(hp:h.get p=some (.cells [.int .i64 k] e rw))(iG:p<N)(hu:kf h N u l)(hk:k<l.length):mw A.C (.func 149 [] [.ptr p 0]) [u] h N (fun x h' n'=>Fc h' n' x (l[k]?.getD 0)):=by
 intro w
 have l1:=hu.len
 have gS:(k:Int)<(l.length:Int):=by omega
 obtain⟨q,hq⟩:=a_ hk
 obtain⟨i,o,cc,e,rw,c,q1,q2,q3,q4,q5⟩:=hu.at hq
 obtain⟨e1,e2⟩:=q5.len
 have kB:ab h N (h.set N (.cells zF 108 true)) (N+1):=ab.refl.new _
 have ke:(V.agg c).cells=c:=rfl
 have e4:ae zF 0 c=c:=by unfold ae;rw[e1];simp[e1,zF]
 have Cq:tM zF:=by intro x hx m;simp[zF]at hx;rcases hx with rfl|rfl|rfl|rfl<;>simp
 have s0:aC c 0 4=some c:=by unfold aC;rw[e1];simp;exact fb (by omega)
 have kk:=kB.set (h:=h) (n:=N) (i:=N) (o:=.cells c 108 true) (aO N)
 have oZ:=((q5.ad kB).aH (i:=N) (e0:=108) (w0:=true) (e1:=108) (w1:=true) (c1:=c) (by rw[T.ag,ax rfl]) Cq (by rw[e1];rfl)).fc
 have d1:¬p=N:=by omega
 have d2:¬i=N:=by omega
 rw[hq]
 unfold zF at e4
 rw[aM,A.k149 (by simp)]
 simp[-V.cells, -V.one,A.b149,hp,d1,d2,l1,hk,gS,q1,q3,q4,ke,e1,e2,e4,s0,bD,az,cn.cr]
 exact⟨kk,oZ⟩
def Zy0{n:Nat}(hu:fK h N u m)(mj:m.length<100000)(hm:∀r∈m,r.length=n)(hk:k<n):Fn A.C 68 [u,.int .i64 k] h N (fun x h' n'=>dT h' n' x (iZ m k)):=by
 intro w
 rw[aM,A.k68 (by simp)]
 have kB:ab h N (h.set N (.cells [.int .i64 k] 3 true)) (N+1):=ab.refl.new _
 simp[A.b68]
 refine ay (Yey (fun r=>r[k]?.getD 0) (hu.ad kB) (by omega) fun l gj x h' n' eF hx=>?_) ?_
 ·exact Yq1 (e:=3) (rw:=true) (by rw[eF.get N (by omega)];simp) (by have:=eF.le;omega) hx.1 (by rw[hm l gj];exact hk)
 ·rintro x h4 n4 k4 hx
  simp[az]
  exact⟨kB.trans k4,hx⟩
variable {N:Nat} {h:T O} {l:List Rat} {m:List (List Rat)} {u v:V}
def A.P9:=A.q Tryz.f174
def A.tg:=A.ql A.P9 0 []
def A.b174:=(fun x0=>A.qb A.P9 [x0]) A.tg
def A.k174:=@A.kk 174 19 [.tmp 4] A.b174 (by kernel_rfl) rfl
def Yp7{f:V}(l:List (List V))(p:Nat->Bool)(hs:Sn 4 h N v l)(hl:l.length<1152921504606846976)(hf:∀(j:Nat) (x:List V),l[j]?=some x->∀h' n',ab h N h' n'->mw A.C f [.agg x] h' n' (fun u _ _=>u=.bool (p j))):Fn A.C 174 [v,f] h N (fun u _ _=>u=.int .i64 (oo p 0 l.length)):=by
 intro w
 have hlen:=hs.len
 rw[aM,A.k174 (by simp)]
 simp[A.b174,hlen]
 refine bA [(4,5),(8,18)] (fun e r st=>ar N st.w=[]/\ab h N st.h st.n/\((e=.exit 0/\oo p 0 l.length= -1)\/(e=.ret/\r.get 4=some (.int .i64 (oo p 0 l.length))))) (fun m r st=>ar N st.w=[]/\ab h N st.h st.n/\∃k,k+m=l.length/\r.get 8=some (.int .i64 k)/\oo p 0 l.length=oo p k m) l.length ?_ ?_ ?_
 ·exact⟨by simp,ab.refl,0,by omega,by simp,rfl⟩
 ·rintro m r ⟨H,n1,W⟩ hr cG ⟨hW,hK,k,hk,h8,hz⟩
  simp only at hW hK
  rw[bb]
  cases m with
  |zero=>
   have:k=l.length:=by omega
   subst this
   simp only[oo]at hz
   simp[A.tg,hr,cG,h8,hW,hK,hz]
  |succ m=>
   have au:k<l.length:=by omega
   obtain⟨c,hc⟩:=a_ au
   obtain⟨i,o,cc,e,rw,q1,q2,q3,q4⟩:=hs.at hc
   have q3:=(hK.get _ q2).trans q3
   have bG:(k:Int)<(l.length:Int):=by omega
   simp only[oo]at hz
   simp[A.tg,hr,cG,h8,bG,au,hlen,q1,q3,q4,hW]
   refine CG (hf k c hc _ _ hK) ?_
   rintro v h2 n2 k2 rfl
   have kk:=hK.trans k2
   cases hp:p k
   ·rw[hp]at hz
    simp(disch:=first|(simp;done)|omega|rfl) [hr,cG,h8,hW,kk]
    exact⟨m,by omega,k+1,by omega,by simp,by simpa using hz⟩
   ·rw[hp]at hz
    simp[hr,cG,h8,hW,kk]
    simpa using hz.symm
 ·rintro e r ⟨H,n1,W⟩ hr ⟨hW,hK,⟨rfl,hz⟩|⟨rfl,h4⟩⟩
  ·simp only at hW hK
   simp[hr,hz,az,hW,hK]
  ·simp only at hW hK
   simp[hr,h4,az,hW,hK]
def A.b110:=A.q Tryz.f110
def A.k110:=@A.kk 110 9 [.tmp 4] A.b110 (by kernel_rfl) rfl
def A.b69:=A.q Tryz.f69
def A.k69:=@A.kk 69 8 [.tmp 2,.tmp 3] A.b69 (by kernel_rfl) rfl
def A.w66:=A.q Tryz.f66
def A.xo:=A.ql A.w66 0 []
def A.b66:=(fun x0=>A.qb A.w66 [x0]) A.xo
def A.k66:=@A.kk 66 19 [.tmp 4] A.b66 (by kernel_rfl) rfl
def A.w70:=A.q Tryz.f70
def A.xp:=A.ql A.w70 0 []
def A.b70:=(fun x0=>A.qb A.w70 [x0]) A.xp
def A.k70:=@A.kk 70 32 [.tmp 6] A.b70 (by kernel_rfl) rfl
def Yk3{f:V}(l:List (List V))(p:Nat->Bool)(hs:Sn 4 h N v l)(hl:l.length<1152921504606846976)(hf:∀(j:Nat) (x:List V),l[j]?=some x->∀h' n',ab h N h' n'->mw A.C f [.agg x] h' n' (fun u _ _=>u=.bool (p j))):Fn A.C 110 [v,f] h N (fun u _ _=>u=.bool (decide (0<=oo p 0 l.length))):=by
 intro w
 rw[aM,A.k110 (by simp)]
 simp[A.b110]
 refine ay (Yp7 l p hs hl hf) ?_
 rintro v h2 n2 k2 rfl
 simp[az,k2]
def Ybk:decide (0<=oo (fun j=>By (l[j]?.getD 0)) 0 l.length)=pS l:=by
 rw[Bool.eq_iff_iff,decide_eq_true_eq,Zuj]
 unfold pS
 rw[List.any_eq_true]
 constructor
 ·rintro⟨j,_,h2,h3⟩
  obtain⟨q,hq⟩:=a_ (l:=l) (k:=j) (by omega)
  rw[hq]at h3
  exact⟨q,bM hq,h3⟩
 ·rintro⟨q,hq,h3⟩
  obtain⟨j,hj⟩:=uR hq
  exact⟨j,uN _,by have:=jt hj;omega,by rw[hj];exact h3⟩
def Yhx{h:T O}{N:Nat}{u:V}{l:List Rat}{k:Nat}(hu:kf h N u l)(hP:lE h N)(hl:l.length<1000000000)(hq:∀q∈l,Qb k q)(hk:k<=400000000):Fn A.C 69 [u] h N (fun x h' n'=>(pS l=true/\x=.aV [.aa,.int .i64 4])\/(pS l=false/\∃v,x=.aV [v,.int .i64 0]/\tP h' n' v l)):=by
 intro w
 obtain⟨cs,s1,s2,s3⟩:=id hu
 have key:=Yk3 (f:=.func 87 [] []) cs (fun j=>By (l[j]?.getD 0)) s1 (by omega) (fun j x hx h' n' gS=>by
  obtain⟨q,hqj⟩:=a_ (l:=l) (k:=j) (by have:=jt hx;omega)
  obtain⟨c,g1,g2⟩:=s3 j q hqj
  rw[hx]at g1
  obtain rfl:x=c:=by simpa using g1
  simp only[hqj,jz]
  exact Yfu (g2.ad gS).fc (hP.ad gS) (hq q (bM hqj)) (by omega))
 rw[s2,Ybk]at key
 rw[aM,A.k69 (by simp)]
 simp[A.b69]
 refine ay key ?_
 rintro _ h2 n2 k2 rfl
 cases hb:pS l with
 |true=>
  simp[az]
  exact k2
 |false=>
  simp[]
  refine ay (Yh1 (k0:=k) (hu.ad k2) (hP.ad k2) hl hq hk) ?_
  rintro v h3 n3 k3 t1
  simp[az]
  exact⟨k2.trans k3,t1⟩
def gh(N0:Nat)(h:T O)(N:Nat)(v:V)(m:List (List Rat)):Prop:=∃us:List V,Own 1 72 N0 h N v (us.map fun y=>[y])/\(us=[]->v=.aa)/\us.length=m.length/\∀(j:Nat) (l:List Rat),m[j]?=some l->∃u,us[j]?=some u/\dT h N u l
def gh.nil{N0:Nat}:gh N0 h N .aa []:=⟨[],Own.nil,fun _=>rfl,rfl,fun j l hl=>by simp at hl⟩
def gh.ad{N0:Nat}{h':T O}{N':Nat}(s:gh N0 h N v m)(k:ab h N h' N'):gh N0 h' N' v m:=by
 obtain⟨us,h1,h2,h3,h4⟩:=s
 refine⟨us,h1.ad k,h2,h3,fun j l hl=>?_⟩
 obtain⟨u,g1,g2⟩:=h4 j l hl
 exact⟨u,g1,g2.ad k⟩
def gh.Et{N0:Nat}(s:gh N0 h N v m):fK h N v m:=by
 obtain⟨us,h1,h2,h3,h4⟩:=s
 exact⟨us,Sn.one.1 h1.sn,h3,h4⟩
def gh.push{N0:Nat}{x:V}{w:List Nat}(s:gh N0 h N v m)(hu:dT h N u l)(hN:N0<=N)(hx:ef ⟨h,N,w⟩ 1 x=some (1,[u]))(hm:m.length<100000):
  ∃v' h' w',gX ⟨h,N,w⟩ 1 24 72 v x=some (v',⟨h',N+1,w'⟩)/\ar N0 w'=ar N0 w/\ab h N0 h' (N+1)/\gh N0 h' (N+1) v' (m++[l]):=by
 obtain⟨us,h1,h2,h3,h4⟩:=s
 obtain⟨v',h',w',f1,f2,f3,f4,fD,f5⟩:=En (Y:=NW) (x:=[u]) (u:=x) (bytes:=24) (w:=w) h1 (fun h0=>h2 (List.map_eq_nil_iff.1 h0)) (fun c hc y hy=>by
  obtain⟨z,hz,rfl⟩:=eC.1 hc
  obtain rfl:y=z:=by simpa using hy
  obtain⟨j,hj⟩:=uR hz
  obtain⟨r,hr⟩:=a_ (l:=m) (k:=j) (by have:=jt hj;omega)
  obtain⟨u',g1,g2⟩:=h4 j r hr
  rw[hj]at g1
  obtain rfl:y=u':=by simpa using g1
  exact g2.1.form.2.2) hN (by decide) rfl hx (by rw[gY];omega)
 refine⟨v',h',w',f1,f2,f3,us++[u],by simpa using f5,by simp,by simp[h3],fun j r hr=>?_⟩
 by_cases hj:j<m.length
 ·rw[iS hj]at hr
  obtain⟨u',g1,g2⟩:=h4 j r hr
  exact⟨u',by rw[iS (by omega)];exact g1,g2.bO f4 fD (by simp)⟩
 ·rw[lD (by omega)]at hr
  cases hd:j-m.length with
  |zero=>
   rw[hd]at hr
   simp at hr
   subst hr
   exact⟨u,by rw[lD (by omega),h3,hd];rfl,hu.bO f4 fD (by simp)⟩
  |succ d=>rw[hd]at hr;simp at hr
def Wy{n:Nat}(hu:fK h N u m)(mj:m.length<100000)(hm:∀r∈m,r.length=n)(hn:n<1000):Fn A.C 66 [u,.int .i64 n] h N (fun x h' n'=>gh N h' n' x (dq m n)):=by
 intro w
 rw[aM,A.k66 (by simp)]
 simp[A.b66]
 refine bA [(5,6),(8,17)] (fun e r st=>e=.exit 0/\ar N st.w=[]/\ab h N st.h st.n/\∃x,r.get 5=some x/\gh N st.h st.n x (dq m n)) (fun i r st=>ar N st.w=[]/\ab h N st.h st.n/\∃k x,k+i=n/\r.get 8=some (.int .i64 k)/\r.get 5=some x/\gh N st.h st.n x (dq m k)) n ?_ ?_ ?_
 ·exact⟨by simp,ab.refl,0,.aa,by omega,by simp,by simp,gh.nil⟩
 ·rintro i r ⟨H,n1,W⟩ hr hf ⟨hW,hK,k,x,hk,h8,h5,ho⟩
  simp only at hW hK ho
  rw[bb]
  cases i with
  |zero=>
   obtain rfl:k=n:=by omega
   simp[A.xo,hr,hf,h8,h5,hW,hK]
   exact ho
  |succ i=>
   have au:k<n:=by omega
   have aS:(k:Int)<(n:Int):=by omega
   simp[A.xo,hr,hf,h8,h5,au,aS]
   refine ay (Zy0 (hu.ad hK) mj hm au) ?_
   rintro y H2 n2 k2 hy
   have jA:=k2.le
   have fk:=hK.le
   obtain⟨y1,y2,y3⟩:=hy.1.form
   have e4:ae [V.aa] 0 [y]=[y]:=rfl
   have kN:ab H2 n2 (H2.set n2 (.cells [y] 72 true)) (n2+1):=ab.refl.new _
   obtain⟨v',h',w',f1,f2,f3,f5⟩:=(((ho.ad k2).ad kN).push (x:=.slice n2 0 1 (some 1) 1) (l:=iZ m k) (w:=W) (hy.ad kN) (by omega) (by simp[ef,St.row,aC]) (by simp[dq];omega))
   have e7:dq m k++[iZ m k]=dq m (k+1):=by simp[dq,List.range_succ]
   rw[e7]at f5
   have b1:V.one y=true:=y1
   simp(disch:=first|(simp;done)|omega|rfl) [-V.cells, -V.one,hr,hf,h8,h5,b1,y2,e4,f1]
   exact⟨i,by omega,by rw[f2];exact hW,((hK.trans k2).trans kN).then f3,k+1,by omega,by simp,f5⟩
 ·rintro _ r ⟨H,n1,W⟩ hr ⟨rfl,hW,hK,x,h5,ho⟩
  simp only at hW hK ho
  simp[hr,h5,az,hW,hK]
  exact ho
variable {a b:List Rat} {j n:Nat}
set_option maxHeartbeats 2000000
def n_(F:Rat->Rat->Rat)(a b:List Rat)(n:Nat):List Rat:=(List.range n).map fun k=>F (a[k]?.getD 0) (b[k]?.getD 0)
def Qs{F:Rat->Rat->Rat}(h:j<n):(n_ F a b n)[j]?=some (F (a[j]?.getD 0) (b[j]?.getD 0)):=by
 simp[n_,h]
def Gy{F:Rat->Rat->Rat}:(n_ F a b n).length=n:=by simp[n_]
structure JnI (F:Rat->Rat->Rat) (h:T O) (N:Nat) (a b:List Rat) (m:Nat) (r:T V) (st:St):Prop where
 w:ar N st.w=[]
 ad:ab h N st.h st.n
 ex:∃(k:Nat) (cs:List (List V)),k+m=a.length/\r.get 14=some (.int .i64 k)/\N<st.n/\st.h.get N=some (.cells (cs.flatten++cW zF m) 108 true)/\cs.length=k/\∀(j:Nat) (q:Rat),j<k->(n_ F a b a.length)[j]?=some q->∃c,cs[j]?=some c/\fu st.h st.n c q
def Yfh{h:T O}{N:Nat}{u v f:V}(F:Rat->Rat->Rat)(hu:kf h N u a)(hv:kf h N v b)(ec:a.length<=b.length)(hF:∀x∈a,∀y∈b,∀(h':T O) (n':Nat) (ca cb:List V),ab h N h' n'->fu h' n' ca x->fu h' n' cb y->mw A.C f [.agg ca,.agg cb] h' n' (fun z h2 n2=>Fc h2 n2 z (F x y)))(hl:a.length<1000000000):Fn A.C 70 [u,v,f] h N (fun x h' n'=>dT h' n' x (n_ F a b a.length)):=by
 intro w
 have l1:=hu.len
 have l2:=hv.len
 have c1:(64:Int)*(a.length:Int)<=140737488355328:=by omega
 have c2:(a.length:Int)<4611686018427387904:=by omega
 have kB:ab h N (h.set N (.cells (cW zF a.length) 108 true)) (N+1):=ab.refl.new _
 rw[aM,A.k70 (by simp)]
 simp[A.b70,l1,c1,c2]
 refine bA [(8,8),(14,30)] (fun e r st=>e=.exit 0/\JnI F h N a b 0 r st) (JnI F h N a b) a.length ?_ ?_ ?_
 ·exact⟨by simp,kB,0,[],by omega,by simp,by show N<N+1;omega,by rw[T.ag,ax rfl];rfl,rfl,fun j q hj=>by omega⟩
 ·rintro m r ⟨H,n1,W⟩ hr hf ⟨hW,hK,t,cs,ht,oG,pO,hM,cO,jC⟩
  simp only at hW hK hM pO jC
  rw[bb]
  cases m with
  |zero=>
   obtain rfl:t=a.length:=by omega
   simp[A.xp,hr,hf,oG]
   exact⟨hW,hK,a.length,cs,by omega,by simp[oG],pO,hM,cO,jC⟩
  |succ m=>
   have au:t<a.length:=by omega
   have aS:(t:Int)<(a.length:Int):=by omega
   have jw:t<b.length:=by omega
   have Br:(t:Int)<(b.length:Int):=by omega
   obtain⟨x,hx⟩:=a_ au
   obtain⟨y,hy⟩:=a_ jw
   obtain⟨i,o,cc,e,rw,ca,q1,q2,q3,q4,q5⟩:=(hu.ad hK).at hx
   obtain⟨i',o',cc',e',mP,cb,p1,p2,p3,p4,p5⟩:=(hv.ad hK).at hy
   have hi:i<N:=by
    obtain⟨i2,_,_,_,_,_,z1,z2,_⟩:=hu.at hx
    rw[q1]at z1
    simp at z1
    omega
   have iP:i'<N:=by
    obtain⟨i2,_,_,_,_,_,z1,z2,_⟩:=hv.at hy
    rw[p1]at z1
    simp at z1
    omega
   simp[A.xp,hr,hf,oG,l1,l2,au,aS,jw,Br,q1,q2,q3,q4,p1,p2,p3,p4]
   refine CG (hF x (bM hx) y (bM hy) _ _ _ _ hK q5 p5) ?_
   rintro _ H2 n2 k2 cG
   obtain⟨c,rfl,hc⟩:=cG.c
   have jA:=k2.le
   have fk:=hK.le
   have sE:=(k2.get N pO).trans hM
   have IQ:∀(j:Nat) (q:Rat),j<cs.length->(n_ F a b a.length)[j]?=some q->∃c,cs[j]?=some c/\fu H2 n2 c q:=fun j q hj hq=>by
    obtain⟨c,g1,g2⟩:=jC j q (by omega) hq
    exact⟨c,g1,g2.ad k2⟩
   obtain⟨f1,f2,f3⟩:=Oo (l:=n_ F a b a.length) (by rw[Gy];omega) IQ
   have lJ:=Aj f1
   obtain⟨e1,e2⟩:=hc.len
   have gb:ae (cs.flatten++cW zF (m+1)) (t*4) c=(cs++[c]).flatten++cW zF m:=by
    rw[F4,SE (n:=4) (by rw[lJ,cO]) rfl e1,KN,tU]
   have hb4:t*4+4<=(cs.flatten++cW zF (m+1)).length:=by
    rw[iN,lJ,Z3];omega
   have ke:(V.agg c).cells=c:=rfl
   have F5:tM (cs.flatten++cW zF (m+1)):=f2.app SF
   have pk:((cs++[c]).flatten++cW zF m).length=(cs.flatten++cW zF (m+1)).length:=by
    rw[F4,KN];simp[e1,zF];omega
   generalize cs.flatten++cW zF (m+1)=X at*
   obtain⟨Y,hY⟩:∃Y,(cs++[c]).flatten++cW zF m=Y:=⟨_,rfl⟩
   rw[hY]at gb pk
   have d1:N<n2:=by omega
   have d2:¬i=N:=by omega
   have d3:¬i'=N:=by omega
   simp(disch:=first|(simp;done)|omega|rfl) [-V.cells, -V.one,hr,hf,oG,au,aS,sE,bD,ke,e1,e2,hb4,gb]
   have ix:¬N<N:=by omega
   refine⟨m,by omega,⟨by simp[d1,ar,hW],(hK.trans k2).set (aO N),t+1,cs++[c],by omega,by simp,d1,by show T.get _ N=_;rw[T.ag,ax rfl,hY],by simp[cO],fun j q' hj pT=>?_⟩⟩
   by_cases tl:j<t
   ·obtain⟨c',g1,g2⟩:=jC j q' tl pT
    exact⟨c',by rw[iS (by omega)];exact g1,(g2.ad k2).aH sE F5 pk⟩
   ·obtain rfl:j=t:=by omega
    rw[Qs au,hx,hy]at pT
    simp only[jz,an]at pT
    subst pT
    exact⟨c,by rw[lD (by omega),cO];simp,hc.aH sE F5 pk⟩
 ·rintro _ r ⟨H,n1,W⟩ hr ⟨rfl,hW,hK,t,cs,ht,oG,pO,hM,cO,jC⟩
  simp only at hW hK hM pO jC
  obtain rfl:t=a.length:=by omega
  simp[hr,az,hW,hK]
  have hz:cW zF 0=[]:=by simp[cW]
  obtain⟨f1,_,_⟩:=Oo (l:=n_ F a b a.length) (by rw[Gy];omega) (fun j q hj hq=>jC j q (by omega) hq)
  have lJ:=Aj f1
  rw[hz,yK]at hM
  refine⟨⟨cs,.inr ⟨N,0,some a.length,cs.flatten,_,true,by rw[cO],pO,hM,fun j x hx=>by rw[xP];exact Nk f1 hx,by omega,fun k hk=>by simp at hk;omega⟩,by rw[Gy];exact cO,fun j q hq=>jC j q (by have:=jt hq;rw[Gy]at this;omega) hq⟩,fun i hi=>?_⟩
  simp[cQ]at hi
  subst hi
  exact⟨_,_,hM⟩
def Yj2{h:T O}{N:Nat}{u v:V}{k:Nat}(hu:kf h N u a)(hv:kf h N v b)(ec:a.length<=b.length)(ha:∀q∈a,Qb j q)(hb:∀q∈b,Qb k q)(hj:j<=400000000)(hk:k<=400000000)(hl:a.length<1000000000):Fn A.C 70 [u,v,.func 86 [] []] h N (fun x h' n'=>dT h' n' x (yt a b a.length)):=
 Yfh (fun x y=>x*y) hu hv ec (fun x hx y hy h' n' ca cb _ q5 p5=>by
  have uL:=ha x hx
  have iU:=hb y hy
  have w1:=ve uL.1
  have w2:=ve (z:=(x.den:Int)) (k:=j) (by rw[dH];exact uL.2)
  have w3:=ve iU.1
  have w4:=ve (z:=(y.den:Int)) (k:=k) (by rw[dH];exact iU.2)
  exact(Qr q5.fc p5.fc (by omega) (by omega) (by omega) (by omega))) hl
def Yr4{k:Nat}(ha:∀q∈a,Qb j q)(hb:∀q∈b,Qb k q)(hj:1<=j)(hk:1<=k):∀q∈yt a b n,Qb (j+k) q:=fun q hq=>by
 unfold yt at hq
 obtain⟨i,_,rfl⟩:=eC.1 hq
 exact(Jw ha hj i).mul (Jw hb hk i)
variable {l:List aQ} {m:List (List aQ)} {n:Nat}
set_option maxHeartbeats 2000000
def mG(l:List aQ):List Rat:=l.map kI
def fN(m:List (List aQ)):List (List Rat):=m.map mG
def xD:∀{l:List Int},bn l=0->∀x∈l,x=0
 |[],_,x,hx=>by simp at hx
 |y::l,h,x,hx=>by
  simp only[bn]at h
  split at h
  ·rename_i h0
   rcases ku.1 hx with rfl|hx
   ·exact h0
   ·exact xD h x hx
  ·rename_i h0;exact absurd h h0
def tO(l:List aQ):Prop:=∀s∈l,bj s=0/\s.length<=24
def tO.Cv(h:tO l):(mG l).map aP=l:=by
 unfold mG
 rw[List.map_map]
 conv=>rhs;rw[<-List.map_id l]
 apply yB
 intro s hs
 exact(Lk (h s hs).1).1
def tO.qb(h:tO l):∀q∈mG l,Qb 100 q:=fun q hq=>by
 obtain⟨s,hs,rfl⟩:=eC.1 hq
 exact Yt5 (h s hs).1 (h s hs).2
def tO.sl{h:T O}{N:Nat}{v:V}(hs:Sl h N v (strs l))(hl:tO l):Tx h N v (mG l):=by
 unfold Tx tx
 rw[hl.Cv]
 exact hs
def fC.rat{h:T O}{N:Nat}{v:V}(hs:fC h N v m)(hm:∀r∈m,tO r):fA h N v (fN m):=by
 apply fC.tI
 have:((fN m).map fun l=>l.map aP)=m:=by
  unfold fN
  rw[List.map_map]
  conv=>rhs;rw[<-List.map_id m]
  apply yB
  intro r hr
  exact(hm r hr).Cv
 rw[this]
 exact hs
def Zy3(h:eR l n=0)(hs:fe 6 l=true):l.length=n/\tO l:=by
 unfold eR at h
 split at h
 ·rename_i hn
  refine⟨hn,fun s jh=>?_⟩
  have h1:=xD h _ (eC.2 ⟨s,jh,rfl⟩)
  have h2:l.all pQ=true:=by
   unfold fe at hs
   rw[iz]at hs
   exact hs.2
  have h3:=me.1 h2 s jh
  simp[pQ]at h3
  exact⟨by omega,h3⟩
 ·exact absurd h (by decide)
def Zs7(h:fe n l=true):pr l.length n=true:=by
 unfold fe at h
 rw[iz]at h
 exact h.1
structure Jp (m:List (List aQ)) (n:Nat):Prop where
 pos:0<m.length
 le:m.length<=6
 n1:0<n
 n6:n<=6
 row:∀r∈m,r.length=n/\tO r
def Jp.rat(h:Jp m n):∀r∈fN m,r.length=n/\∀q∈r,Qb 100 q:=fun r hr=>by
 obtain⟨s,hs,rfl⟩:=eC.1 hr
 exact⟨by simp[mG,(h.row s hs).1],(h.row s hs).2.qb⟩
def Zqa(h:mQ 6 6 m=true):pr m.length 6=true/\∀r∈m,fe 6 r=true:=by
 unfold mQ at h
 rw[iz,me]at h
 exact h
def Yti(h:0<m.length):∃r∈m,fw m=r.length:=by
 obtain⟨r,hr⟩:=a_ h
 exact⟨r,bM hr,by simp[fw,hr]⟩
def Zos{k:Nat}(h:pr k 6=true)(h2:k<=64):k<=6:=by
 simp[pr]at h
 omega
def Ja(h:fe 6 l=true):l.length<100000/\∀s∈l,s.length<=100000:=by
 refine⟨by have:=Zry (Zs7 h) (by omega);omega,fun s hs=>?_⟩
 unfold fe at h
 rw[iz]at h
 have h3:=me.1 h.2 s hs
 simp[pQ]at h3
 omega
def Tf(h:mQ 6 6 m=true):m.length<100000/\∀r∈m,r.length<100000/\∀s∈r,s.length<=100000:=by
 obtain⟨s1,s2⟩:=Zqa h
 exact⟨by have:=Zry s1 (by omega);omega,fun r hr=>Ja (s2 r hr)⟩
def Yqn{a b:List Rat}{j k:Nat}(ha:∀q∈a,Qb j q)(hb:∀q∈b,Qb k q)(hj:1<=j)(hk:1<=k)(hn:a.length<=n):Qb (n*(j+k+1)+1) (lK a b):=(Tn ha hb hj hk a.length).mono (by have:=ki (j+k+1) hn;omega)
def Yow{a b:V}{x y:Int}{P:V->Int->Nat->Prop}(h0:P a x 0)(h1:x=0->P b y 1):∀(j:Nat) (f:V) (e:Int),[a,b][j]?=some f->[x,y][j]?=some e->(∀(i:Nat) (z:Int),i<j->[x,y][i]?=some z->z=0)->P f e j
 |0,f,e,hf,he,_=>by simp at hf he;subst hf he;exact h0
 |1,f,e,hf,he,hz=>by simp at hf he;subst hf he;exact h1 (hz 0 x (by omega) rfl)
 |j+2,f,e,hf,_,_=>by simp at hf
set_option maxHeartbeats 2000000
def Yq6{l:List aQ}{z:Int}(h:bn (l.map (qm z))=0)(hs:fe 6 l=true):tO l:=fun s jh=>by
 have h1:=xD h _ (eC.2 ⟨s,jh,rfl⟩)
 unfold fe at hs
 rw[iz]at hs
 have h3:=me.1 hs.2 s jh
 simp[pQ]at h3
 refine⟨?_,h3⟩
 unfold qm at h1
 split at h1
 ·assumption
 ·omega
set_option maxHeartbeats 2000000
def TP(e:Int)(l:List Rat)(v:V)(c:Int)(h:T O)(n:Nat):Prop:=(e≠0/\v=.aa/\c=e)\/(e=0/\((pS l=true/\v=.aa/\c=4)\/(pS l=false/\c=0/\Tx h n v l)))
def A.b142:=A.q Tryz.f142
def A.k142:=@A.kk 142 9 [.cell 2 (some 4)] A.b142 (by kernel_rfl) rfl
def A.b71:=A.q Tryz.f71
def A.k71:=@A.kk 71 9 [.cell 4 (some 4)] A.b71 (by kernel_rfl) rfl
def Yqb{x:V}{q:Rat}{h:T O}{N:Nat}(hx:Fc h N x q)(l1:wl q.num<1000000000):Fn A.C 142 [x] h N (fun v h' n'=>Fc h' n' v (-q)):=by
 intro w
 rw[aM,A.k142 (by simp)]
 obtain⟨n1,u1,n2,u2,rfl,s1,s2⟩:=hx
 have o1:=dG s1
 have o2:=dG s2
 unfold V.one at o1 o2
 have kB:ab h N ((h.set N (.cells [.int .i64 n1,u1,.int .i64 n2,u2] 108 true)).set (N+1) (.cells [.int .i64 0,.aa,.int .i64 0,.aa] 108 true)) (N+2):=aN (aN ab.refl _) _
 simp[A.b142,aR,aC,ae,o1,o2]
 generalize jb:(h.set N (.cells [.int .i64 n1,u1,.int .i64 n2,u2] 108 true)).set (N+1) (.cells [.int .i64 0,.aa,.int .i64 0,.aa] 108 true)=hB at*
 have b1:hB.get N=some (.cells [.int .i64 n1,u1,.int .i64 n2,u2] 108 true):=by rw[<-jb];simp
 have b3:hB.get (N+1)=some (.cells [.int .i64 0,.aa,.int .i64 0,.aa] 108 true):=by rw[<-jb];simp
 refine ay (KC (s1.ad kB) (by omega)) ?_
 rintro v5 h1 m1 k1 q1
 obtain⟨n3,u3,rfl⟩:∃n3 u3,v5=.agg [.int .i64 n3,u3]:=by
  rcases q1 with⟨rfl,_⟩|⟨_,_,_,_,rfl,_⟩<;>exact⟨_,_,rfl⟩
 have o3:=dG q1
 unfold V.one at o3
 have eY:=k1.le
 have f1:=(k1.get N (by omega)).trans b1
 have f3:=(k1.get (N+1) (by omega)).trans b3
 have e1:N<m1:=by omega
 have e2:N+1<m1:=by omega
 simp[f1,f3,e1,e2,aR,aC,ae,bD,o2,o3,cn.cr,az]
 have kk:=kB.trans k1
 exact⟨kk.set (by omega),n3,u3,n2,u2,rfl,by rw[Rat.neg_num];exact q1.aH (i:=N+1) f3 oh rfl,by rw[Rat.neg_den];exact((s2.ad kB).ad k1).aH (i:=N+1) f3 oh rfl⟩
def Yqa{x y:V}{p q:Rat}{h:T O}{N:Nat}(hx:Fc h N x p)(hy:Fc h N y q)(l1:wl p.num<1000000000)(l2:wl (p.den:Nat)<1000000000)(l3:wl q.num<1000000000)(l4:wl (q.den:Nat)<1000000000):Fn A.C 71 [x,y] h N (fun v h' n'=>Fc h' n' v (p-q)):=by
 intro w
 rw[aM,A.k71 (by simp)]
 have nz:=hx
 have yk:=hy
 obtain⟨n1,u1,n2,u2,rfl,s1,s2⟩:=hx
 obtain⟨n3,u3,n4,u4,rfl,s3,s4⟩:=hy
 have o1:=dG s1
 have o2:=dG s2
 have o3:=dG s3
 have o4:=dG s4
 unfold V.one at o1 o2 o3 o4
 have kB:ab h N (((h.set N (.cells [.int .i64 n1,u1,.int .i64 n2,u2] 108 true)).set (N+1) (.cells [.int .i64 n3,u3,.int .i64 n4,u4] 108 true)).set (N+2) (.cells [.int .i64 0,.aa,.int .i64 0,.aa] 108 true)) (N+3):=aN (aN (aN ab.refl _) _) _
 simp[A.b71,aR,aC,ae,o1,o2,o3,o4]
 generalize jb:((h.set N (.cells [.int .i64 n1,u1,.int .i64 n2,u2] 108 true)).set (N+1) (.cells [.int .i64 n3,u3,.int .i64 n4,u4] 108 true)).set (N+2) (.cells [.int .i64 0,.aa,.int .i64 0,.aa] 108 true)=hB at*
 have b1:hB.get N=some (.cells [.int .i64 n1,u1,.int .i64 n2,u2] 108 true):=by rw[<-jb];simp
 have b2:hB.get (N+1)=some (.cells [.int .i64 n3,u3,.int .i64 n4,u4] 108 true):=by rw[<-jb];simp
 have b3:hB.get (N+2)=some (.cells [.int .i64 0,.aa,.int .i64 0,.aa] 108 true):=by rw[<-jb];simp
 refine ay (Yqb (yk.ad kB) l3) ?_
 rintro v5 h1 m1 k1 q1
 have eY:=k1.le
 have f1:=(k1.get N (by omega)).trans b1
 have f2:=(k1.get (N+1) (by omega)).trans b2
 have f3:=(k1.get (N+2) (by omega)).trans b3
 have e1:N<m1:=by omega
 have e2:N+1<m1:=by omega
 simp[f1,f2,e1,e2,aR,aC,ae]
 refine ay (Yfx ((nz.ad kB).ad k1) q1 l1 l2 (by rw[Rat.neg_num,Ol];exact l3) (by rw[Rat.neg_den];exact l4)) ?_
 rintro v7 h3 m3 k3 hv
 rw[<-Rat.sub_eq_add_neg]at hv
 obtain⟨n5,u5,n6,u6,rfl,t1,t2⟩:=hv
 have o5:=dG t1
 have o6:=dG t2
 unfold V.one at o5 o6
 have je:=k3.le
 have f5:=(k3.get (N+2) (by omega)).trans f3
 have e3:N+2<m3:=by omega
 simp[f5,e3,aR,aC,ae,bD,o5,o6,cn.cr,az]
 have kk:=(kB.trans k1).trans k3
 exact⟨kk.set (by omega),n5,u5,n6,u6,rfl,t1.aH (i:=N+2) f5 oh rfl,t2.aH (i:=N+2) f5 oh rfl⟩
def Qb.CE{q:Rat}{k:Nat}(h:Qb k q):wl q.num<=k/\wl (q.den:Nat)<=k:=⟨ve h.1,ve (z:=(q.den:Int)) (k:=k) (by rw[dH];exact h.2)⟩
def A.b188:=A.q Tryz.f188
def A.k188:=@A.kk 188 8 [.cell 2 (some 4)] A.b188 (by kernel_rfl) rfl
def A.b140:=A.q Tryz.f140
def A.k140:=@A.kk 140 9 [.cell 4 (some 4)] A.b140 (by kernel_rfl) rfl
def A.b137:=A.q Tryz.f137
def A.k137:=@A.kk 137 10 [.tmp 3] A.b137 (by kernel_rfl) rfl
def A.b139:=A.q Tryz.f139
def A.k139:=@A.kk 139 7 [.cell 3 (some 4)] A.b139 (by kernel_rfl) rfl
def A.b141:=A.q Tryz.f141
def A.k141:=@A.kk 141 11 [.cell 5 (some 4)] A.b141 (by kernel_rfl) rfl
def Yqd{x:V}{q:Rat}{h:T O}{N:Nat}(hx:Fc h N x q)(h0:q≠0)(l1:wl q.num<1000000000)(l2:wl (q.den:Nat)<1000000000):Fn A.C 188 [x] h N (fun v h' n'=>Fc h' n' v q⁻¹):=by
 intro w
 rw[aM,A.k188 (by simp)]
 obtain⟨n1,u1,n2,u2,rfl,s1,s2⟩:=hx
 have o1:=dG s1
 have o2:=dG s2
 unfold V.one at o1 o2
 have kB:ab h N ((h.set N (.cells [.int .i64 n1,u1,.int .i64 n2,u2] 108 true)).set (N+1) (.cells [.int .i64 0,.aa,.int .i64 0,.aa] 108 true)) (N+2):=aN (aN ab.refl _) _
 simp[A.b188,aR,aC,ae,o1,o2]
 generalize jb:(h.set N (.cells [.int .i64 n1,u1,.int .i64 n2,u2] 108 true)).set (N+1) (.cells [.int .i64 0,.aa,.int .i64 0,.aa] 108 true)=hB at*
 have b3:hB.get (N+1)=some (.cells [.int .i64 0,.aa,.int .i64 0,.aa] 108 true):=by rw[<-jb];simp
 have hn:q.num≠0:=fun hc=>h0 (Ad.1 hc)
 refine ay (ZU (s2.ad kB) (s1.ad kB) hn (by omega) (by omega)) ?_
 rintro v7 h3 m3 k3 hv
 rw[<-VP]at hv
 obtain⟨n5,u5,n6,u6,rfl,t1,t2⟩:=hv
 have o5:=dG t1
 have o6:=dG t2
 unfold V.one at o5 o6
 have je:=k3.le
 have f5:=(k3.get (N+1) (by omega)).trans b3
 have e3:N+1<m3:=by omega
 simp[f5,e3,aR,aC,ae,bD,o5,o6,az]
 have kk:=kB.trans k3
 exact⟨kk.set (by omega),n5,u5,n6,u6,rfl,t1.aH (i:=N+1) f5 oh rfl,t2.aH (i:=N+1) f5 oh rfl⟩
def Yqe{x y:V}{p q:Rat}{h:T O}{N:Nat}(hx:Fc h N x p)(hy:Fc h N y q)(h0:q≠0)(l1:wl p.num<1000000000)(l2:wl (p.den:Nat)<1000000000)(l3:wl q.num<1000000000)(l4:wl (q.den:Nat)<1000000000)(l5:wl q⁻¹.num<1000000000)(l6:wl (q⁻¹.den:Nat)<1000000000):Fn A.C 140 [x,y] h N (fun v h' n'=>Fc h' n' v (p/q)):=by
 intro w
 rw[aM,A.k140 (by simp)]
 have nz:=hx
 have yk:=hy
 obtain⟨n1,u1,n2,u2,rfl,s1,s2⟩:=hx
 obtain⟨n3,u3,n4,u4,rfl,s3,s4⟩:=hy
 have o1:=dG s1
 have o2:=dG s2
 have o3:=dG s3
 have o4:=dG s4
 unfold V.one at o1 o2 o3 o4
 have kB:ab h N (((h.set N (.cells [.int .i64 n1,u1,.int .i64 n2,u2] 108 true)).set (N+1) (.cells [.int .i64 n3,u3,.int .i64 n4,u4] 108 true)).set (N+2) (.cells [.int .i64 0,.aa,.int .i64 0,.aa] 108 true)) (N+3):=aN (aN (aN ab.refl _) _) _
 simp[A.b140,aR,aC,ae,o1,o2,o3,o4]
 generalize jb:((h.set N (.cells [.int .i64 n1,u1,.int .i64 n2,u2] 108 true)).set (N+1) (.cells [.int .i64 n3,u3,.int .i64 n4,u4] 108 true)).set (N+2) (.cells [.int .i64 0,.aa,.int .i64 0,.aa] 108 true)=hB at*
 have b1:hB.get N=some (.cells [.int .i64 n1,u1,.int .i64 n2,u2] 108 true):=by rw[<-jb];simp
 have b2:hB.get (N+1)=some (.cells [.int .i64 n3,u3,.int .i64 n4,u4] 108 true):=by rw[<-jb];simp
 have b3:hB.get (N+2)=some (.cells [.int .i64 0,.aa,.int .i64 0,.aa] 108 true):=by rw[<-jb];simp
 refine ay (Yqd (yk.ad kB) h0 l3 l4) ?_
 rintro v5 h1 m1 k1 q1
 have eY:=k1.le
 have f1:=(k1.get N (by omega)).trans b1
 have f2:=(k1.get (N+1) (by omega)).trans b2
 have f3:=(k1.get (N+2) (by omega)).trans b3
 have e1:N<m1:=by omega
 have e2:N+1<m1:=by omega
 simp[f1,f2,e1,e2,aR,aC,ae]
 refine ay (Qr ((nz.ad kB).ad k1) q1 l1 l2 l5 l6) ?_
 rintro v7 h3 m3 k3 hv
 rw[<-Rat.div_def]at hv
 obtain⟨n5,u5,n6,u6,rfl,t1,t2⟩:=hv
 have o5:=dG t1
 have o6:=dG t2
 unfold V.one at o5 o6
 have je:=k3.le
 have f5:=(k3.get (N+2) (by omega)).trans f3
 have e3:N+2<m3:=by omega
 simp[f5,e3,aR,aC,ae,bD,o5,o6,cn.cr,az]
 have kk:=(kB.trans k1).trans k3
 exact⟨kk.set (by omega),n5,u5,n6,u6,rfl,t1.aH (i:=N+2) f5 oh rfl,t2.aH (i:=N+2) f5 oh rfl⟩
end
end Go.Mx
