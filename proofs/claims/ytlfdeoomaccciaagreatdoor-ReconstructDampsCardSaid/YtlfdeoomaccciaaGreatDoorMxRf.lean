/-Ranges over functions-/
import Derived.Test.YtlfdeoomaccciaaGreatDoorEcL
set_option linter.all false
namespace Go.Mx
noncomputable section
open Go
def Pz(r:T V)(n:Nat)(ps:List Nat)(a b:bO)(d:Nat):Kr:={st:=.ready,eW:=none,r:=r,n:=n,ps:=ps,assign:=a,body:=b,defs:=d}
def Mm:Option Ex->Ex
 |none=>.normal
 |some e=>e
def Zyy{C:Cx}{K:List Kf}{Q:Rs->Prop}{g:Src}{ps:List Nat}{a b:bO}{r:T V}{n N:Nat}{h:T O}{w:List Nat}{gv:V}{P:V->St->Prop}(hg:g.ev r=some gv)(hy:gv.GL=false)(hc:Call C gv [.yield (N+1)] ⟨(h.set N (.defs true)).set (N+1) (.loop (Pz r n ps a b N)),N+1+1,w⟩ P)(k:∀v az,P v az->∃R,az.h.get (N+1)=some (.loop R)/\R.st≠.busy/\bA C K (some (.ex (Mm R.eW) ⟨r,n,[N]⟩ (az.write (N+1) (.loop {R with st:=.exhausted})))) Q):bA C K (eJ (C.code none (.jf g ps a b) ⟨r,n,[]⟩ ⟨h,N,w⟩)) Q:=by
 obtain⟨v,az,e,p⟩:=hc.ex
 obtain⟨R,h1,h2,h3⟩:=k v az p
 have e2:C.code none (.jf g ps a b) ⟨r,n,[]⟩ ⟨h,N,w⟩=some (Mm R.eW,⟨r,n,[N]⟩,az.write (N+1) (.loop {R with st:=.exhausted})):=by
  rw[Cx.dh]
  show Ad g ps a b C.call C.code none ⟨r,n,[]⟩ ⟨h,N,w⟩=_
  unfold Ad
  simp only[hg,hy,Qg,St.alloc]
  unfold Pz at e
  simp only[fI,if_false,e,h1,h2]
  unfold Mm
  rfl
 rw[e2]
 exact h3
def Yi2{C:Cx}{K:List Kf}{Q:Rs->Prop}{rs:List DX}{st:St}{e:Ex}{r:T V}{n d:Nat}{h1:T O}{n1:Nat}{w1:List Nat}(hd:h1.get d=some (.defs true))(he:∀i,e≠.exit i):bA C (.fin rs st::K) (some (.ex e ⟨r,n,[d]⟩ ⟨h1,n1,w1⟩)) Q↔bA C K (QA (h1.set d (.defs false)) n1 (av st.n (d::w1)++st.w) (fz r ⟨h1.set d (.defs false),n1,d::w1⟩ rs)) Q:=jb (by
 have:shut ⟨h1,n1,w1⟩ [d]=some ⟨h1.set d (.defs false),n1,d::w1⟩:=by
  unfold shut
  simp only[hd]
  rfl
 cases e with
 |exit i=>exact absurd rfl (he i)
 |normal=>
  simp only[iR,lK,rn,this]
  rcases fz r _ rs with _|_<;>rfl
 |ret=>
  simp only[iR,lK,rn,this]
  rcases fz r _ rs with _|_<;>rfl)
def Ya0{C:Cx}{l:Nat}{args:List V}{st:St}{R:Kr}{r0:T V}{P:V->St->Prop}(hx:C.x (.yield l) args st=none)(hl:st.h.get l=some (.loop R))(hs:R.st=.ready)(hp:B2 R.r R.n R.ps args=some r0)(hc:Code C (some l) R.assign ⟨r0,R.n,[]⟩ st (fun e fr bS=>e=.normal/\bS.h.get l=some (.loop R)/\Code C (some l) R.body fr (bS.write l (.loop {R with st:=.busy})) (fun e2 _ eI=>∃R2,eI.h.get l=some (.loop R2)/\P (.bool (re e2).isNone) (eI.write l (.loop {R2 with st:=Ju (re e2),eW:=re e2}))))):Call C (.yield l) args st P:=by
 obtain⟨e,fr,bS,e1,rfl,g1,hb⟩:=hc.ex
 obtain⟨e2,Au,eI,e3,R2,g2,p⟩:=hb.ex
 refine⟨_,_,?_,p⟩
 rw[Cx.mK]
 unfold sX
 rw[hx]
 show CD C.code l args st=_
 unfold CD
 simp only[hl,hp,e1,g1,hs,if_true,e3,g2]
open Go Go.Proofs
set_option maxRecDepth 1000000
structure Pk where
 act:Int
 am:aM
 sl:List aM
def Mn(p:Pk)(u:V):List V:=[.int .i64 p.act,.str p.am,u]
def Mo(h:T O)(N:Nat)(v:V)(l:List Pk):Prop:=∃cs:List (List V),Sn 3 h N v cs/\cs.length=l.length/\∀(j:Nat) (p:Pk),l[j]?=some p->∃u,cs[j]?=some (Mn p u)/\Sl h N u (strs p.sl)
def Mo.ae{h h':T O}{N N':Nat}{v:V}{l:List Pk}(s:Mo h N v l)(k:ab h N h' N'):Mo h' N' v l:=by
 obtain⟨cs,h1,h2,h3⟩:=s
 refine⟨cs,h1.ae k,h2,fun j p hp=>?_⟩
 obtain⟨u,g1,g2⟩:=h3 j p hp
 exact⟨u,g1,g2.ae k⟩
def XE{x c:List V}{k n j:Nat}(h:aD x k n=some c)(hj:j<n):x[k+j]?=c[j]?:=by
 obtain⟨h1,rfl⟩:=Mp h
 rw[iM,ay hj,fg]
def Mo.at{h:T O}{N:Nat}{v:V}{l:List Pk}(s:Mo h N v l){j:Nat}{p:Pk}(hj:l[j]?=some p):∃i o x e rw u,w_ v=some (i,o)/\i<N/\h.get i=some (.cells x e rw)/\aD x (o+j*3) 3=some (Mn p u)/\x[o+j*3]?=some (.int .i64 p.act)/\x[o+j*3+1]?=some (.str p.am)/\x[o+j*3+2]?=some u/\Sl h N u (strs p.sl):=by
 obtain⟨cs,h1,h2,h3⟩:=s
 obtain⟨u,g1,g2⟩:=h3 j p hj
 obtain⟨i,o,x,e,rw,q1,q2,q3,q4⟩:=h1.at g1
 exact⟨i,o,x,e,rw,u,q1,q2,q3,q4,by have:=XE q4 (j:=0) (by decide);simpa[Mn]using this,by have:=XE q4 (j:=1) (by decide);simpa[Mn]using this,by have:=XE q4 (j:=2) (by decide);simpa[Mn]using this,g2⟩
section
variable {h:T O} {N P B:Nat} {p:Pk} {u:V} {e eB:TypeId} {rw rwB:Bool} {z:Int}
end
set_option maxHeartbeats 4000000
variable {N i:Nat} {h:T O} {o o0:O} {v:V}
def FJ(o:O):Prop:=∀c e w,o≠.cells c e w
def Sl.pE{l:List V}(s:Sl h N v l)(g:h.get i=some o0)(ho:FJ o0):Sl (h.set i o) N v l:=s.bz (D:=fun j=>j=i) ⟨aQ _,fun j _ hj=>by rw[T.ag,ak hj]⟩ fun j hj hc=>by
 subst hc
 rcases s with⟨_,rfl|rfl⟩|⟨j',o',cp,c,e,rw,rfl,_,h3,_⟩
 ·simp[bZ]at hj
 ·simp[bZ]at hj
 ·simp[bZ]at hj
  subst hj
  rw[g]at h3
  exact absurd (pc h3) (ho _ _ _)
def ec.pE{l:List Rat}(s:ec h N v l)(g:h.get i=some o0)(ho:FJ o0):ec (h.set i o) N v l:=by
 obtain⟨⟨cs,h1,h2,h3⟩,h4⟩:=s
 have aW:∀j∈bZ v,¬j=i:=fun j hj hc=>by
  obtain⟨z,w,hz⟩:=h4 j hj
  rw[hc,g]at hz
  exact absurd (pc hz) (ho _ _ _)
 have hI:∀{x:V} {z:Int},In h N x z->In (h.set i o) N x z:=fun s=>by
  rcases s with s|⟨i,o,l,c,s1,s2,s3⟩
  ·exact .inl s
  ·exact .inr ⟨i,o,l,c,s1,Sl.pE s2 g ho,s3⟩
 refine⟨⟨cs,h1.bz (D:=fun j=>j=i) ⟨aQ _,fun j _ hj=>by rw[T.ag,ak hj]⟩ aW,h2,fun j q hq=>?_⟩,fun j hj=>by rw[T.ag,ak (aW j hj)];exact h4 j hj⟩
 obtain⟨c,a,n1,u1,n2,u2,e,s1,s2⟩:=h3 j q hq
 exact⟨c,a,n1,u1,n2,u2,e,hI s1,hI s2⟩
def iI.pE{N0:Nat}{m:List (List Rat)}(s:iI N0 h N v m)(g:h.get i=some o0)(ho:FJ o0):iI N0 (h.set i o) N v m:=by
 obtain⟨us,⟨hl,h1⟩,h2,h3,h4⟩:=s
 refine⟨us,⟨hl,?_⟩,h2,h3,fun j l hl=>?_⟩
 ·rcases h1 with h1|⟨j,a,b,c,d⟩
  ·exact .inl h1
  ·refine .inr ⟨j,a,b,c,?_⟩
   rw[T.ag,ak]
   ·exact d
   ·rintro rfl
    rw[g]at d
    exact absurd (pc d) (ho _ _ _)
 ·obtain⟨u,g1,g2⟩:=h4 j l hl
  exact⟨u,g1,g2.pE g ho⟩
def gh.uS{h h':T O}{N N' B:Nat}{u v:V}{m:List (List Rat)}{e:TypeId}(s:gh h N u m)(k:dG (fun i=>i=B) h N h' N')(g:h.get B=some (.cells [.aa] e true))(he:e≠80)(h0:0<m.length)(hm:∀r∈m,0<r.length):gh h' N' u m:=by
 obtain⟨us,h1,h2,h3⟩:=s
 have hd:kl e NW h (.slice B 0 1 none 1):=fun i hi=>by
  simp[bZ]at hi
  subst hi
  exact⟨_,g,by simp,fun y hy=>by simp at hy;subst hy;exact fun m=>by simp⟩
 have k':dG (fun i=>i∈bZ (.slice B 0 1 none 1)) h N h' N':=k.mono fun i _ hi=>by simp[bZ];exact hi
 refine⟨us,h1.bz k fun i hi hc=>?_,h2,fun j l hl=>?_⟩
 ·subst hc
  obtain⟨l,hl⟩:=bh h0
  obtain⟨x,g1,g2⟩:=h3 0 l hl
  have gX:=hm l (bU hl)
  obtain⟨j,o,c,e',pn,q1,q2,q3,q4⟩:=h1.at g1
  have hj:j=i:=by
   cases u<;>simp[w_,bZ]at q1 hi
   all_goals omega
  subst hj
  rw[g]at q3
  simp only[aq,O.cells.injEq]at q3
  obtain⟨rfl,_⟩:=q3
  have:x=.aa:=by
   have:=bU q4
   simpa using this
  subst this
  have hlen:=g2.1.len
  simp[pw]at hlen
  omega
 ·obtain⟨x,g1,g2⟩:=h3 j l hl
  exact⟨x,g1,g2.bz k' hd he⟩
def A.b105:=A.q Tryz.f105
def A.k105:=@A.kk 105 4 [.tmp 2] A.b105 (by kernel_rfl) rfl
def Yjs{h:T O}{N:Nat}{u:V}(h1:V.one u=true)(h2:V.cells u=[u]):Fn A.C 105 [u] h N (fun x h' n'=>∃e,x=.func 168 [] [.ptr N 0]/\N<n'/\h'.get N=some (.cells [u] e true)):=by
 intro w
 have kB:∀e,ab h N (h.set N (.cells [u] e true)) (N+1):=fun e=>ab.refl.new _
 rw[aN,A.k105 (by simp)]
 simp[-V.cells, -V.one,A.b105,h1,h2,aA]
 exact kB _
set_option maxHeartbeats 2000000
def DU(N B i:Nat):Prop:=i=N+1\/i=B\/N+2<=i
set_option maxHeartbeats 2000000
def A.Mq:=A.q Tryz.f168
def A.rA:=A.ql A.Mq 0 []
def A.b168:=(fun x0=>A.qb A.Mq [x0]) A.rA
def A.k168:=@A.kk 168 19 [] A.b168 (by kernel_rfl) rfl
set_option maxHeartbeats 1000000
def jC.ya{N0:Nat}{h:T O}{N R d:Nat}{m:List (List Rat)}{v:V}{us:List V}(s:jC N0 h N R m)(g:h.get R=some (.cells us 23 true))(hv:Sl h N v (us.take d))(hd:d<=m.length):gj h N v (m.take d):=by
 obtain⟨vs,g1,g2,g3⟩:=s.ex
 rw[g]at g1
 simp only[aq,O.cells.injEq,and_true]at g1
 subst g1
 refine⟨us.take d,hv,by simp[g2],fun j l hl=>?_⟩
 by_cases hj:j<d
 ·rw[iM,ay hj]at hl ⊢
  obtain⟨u,a1,a2⟩:=g3 j l hl
  exact⟨u,a1,a2.1⟩
 ·rw[iM,ak hj]at hl
  cases hl
def Zy0{h:T O}{N:Nat}{u:V}{m:List (List Rat)}{c:Nat}{B:Nat->Nat}(hu:gj h N u m)(hc:b_ m c)(kg:m.length<1000)(gV:0<m.length)(cO:c<1000)(yd:∀n,1<=B n)(hK:∀k,cW (aU m k).1 (B (aU m k).2.1))(hB:∀n,n<m.length->n<c->3*B n<=400000000):Fn A.C 140 [u] h N (fun x h' n'=>gj h' n' x (qP m c)):=by
 intro w
 obtain⟨us,h1,h2,h3⟩:=hu
 have fL:=h1
 rcases h1 with⟨hn,_⟩|⟨i,o,cp,c',e,pn,rfl,q2,q3,q4,q5,q6⟩
 ·rw[hn]at h2
  simp at h2
  omega
 have aW:¬i=N:=by omega
 have iS:us≠[]:=fun hc=>by rw[hc]at h2;simp at h2;omega
 have DT:(h.set N (.cells [] 23 true)).get i=some (.cells c' e pn):=by rw[T.ag,ak aW];exact q3
 have ha:∀w,gJ ⟨h.set N (.cells [] 23 true),N+1,w⟩ 1 24 23 (.slice N 0 0 (some 0) 1) (.slice i o us.length cp 1)=some (.slice (N+1) 0 us.length none 1,⟨(h.set N (.cells [] 23 true)).set (N+1) (.cells us 23 true),N+1+1,w⟩):=fun w=>by
  have hg:(h.set N (.cells [] 23 true)).get N=some (.cells [] 23 true):=by simp
  simp only[gJ,Ykh (cp:=cp) DT q4 q5,uk,St.row,hg,aD,St.alloc]
  simp[iS]
  omega
 have kB:ab h N ((h.set N (.cells [] 23 true)).set (N+1) (.cells us 23 true)) (N+1+1):=(ab.refl.new _).new _
 have sR:jC N ((h.set N (.cells [] 23 true)).set (N+1) (.cells us 23 true)) (N+1+1) (N+1) m:=⟨by omega,by omega,us,by rw[T.ag,ay rfl],h2,fun j l hl=>by
  obtain⟨x,a1,a2⟩:=h3 j l hl
  exact⟨x,a1,(Tx.old a2).ae kB⟩⟩
 rw[aN,A.k140 (by simp)]
 simp[A.b140,aE,wU,ha]
 generalize (h.set N (.cells [] 23 true)).set (N+1) (.cells us 23 true)=G at*
 refine mi (Zy2 (h:=h) sR hc kg gV cO yd hK hB kB (by simp) (by simp[h2]) (by simp) (by simp)) ?_
 rintro _ _ ⟨H4,n4,W4⟩ ⟨rfl,hw,k4,s4,r4,f4,rfl,x4⟩
 simp only at hw k4 s4
 have pG:=f4.dP
 obtain⟨vs,g1,g2,_⟩:=id s4.ex
 have hl4:(aU m c).1.length=m.length:=Be
 have iw:=(@pQ m c hc c).2
 have hs:Sl H4 n4 (.slice (N+1) 0 us.length none 1) vs:=Sl.row s4.lt g1 (by omega) fun k hk=>by cases hk
 obtain⟨v',e1,e2⟩:=DS (w:=W4) hs (lo:=0) (hi:=(aU m c).2.1) (by omega) (by omega) none (some (.int .i64 (aU m c).2.1)) (.inr ⟨rfl,rfl⟩) (.inl rfl)
 rw[yU]at e2
 simp[Bh,pG,x4,e1,aA,hw]
 exact⟨k4,s4.ya g1 e2 (by omega)⟩
variable {N:Nat} {h:T O} {l:List Rat}
def A.Mr:=A.q Tryz.f141
def A.mW:=A.ql A.Mr 0 []
def A.b141:=(fun x0=>A.qb A.Mr [x0]) A.mW
def A.k141:=@A.kk 141 18 [.tmp 2] A.b141 (by kernel_rfl) rfl
def A.Ms:=A.q Tryz.f139
def A.rC:=A.ql A.Ms 0 []
def A.b139:=(fun x0=>A.qb A.Ms [x0]) A.rC
def A.k139:=@A.kk 139 14 [.tmp 2] A.b139 (by kernel_rfl) rfl
def Yhl{w:List Nat}{v:V}(hs:Tx h N v l)(hl:l.length<100000):A.C.call (.func 141 [] []) [v] ⟨h,N,w⟩=some (.int .i64 (yV l 0 l.length),⟨h,N,w⟩):=by
 apply Call.eq
 have lg:=Tx.len hs
 rw[aN,A.k141 (by simp)]
 simp[A.b141,lg]
 refine bG [(3,16)] (fun e r st=>st=⟨h,N,[]⟩/\e=.exit 0/\r.get 3=some (.int .i64 (yV l 0 l.length))) (fun m r st=>st=⟨h,N,[]⟩/\∃k,k+m=l.length/\r.get 3=some (.int .i64 k)/\yV l 0 l.length=yV l k m) l.length ?_ ?_ ?_
 ·exact⟨rfl,0,by omega,by simp,rfl⟩
 ·rintro m r _ hr hf ⟨rfl,k,hk,h3,hz⟩
  rw[bk]
  cases m with
  |zero=>
   obtain rfl:k=l.length:=by omega
   have yw:yV l l.length 0=l.length:=rfl
   rw[yw]at hz
   simp[A.mW,hr,hf,h3,lg]
   exact hz.symm
  |succ m=>
   have ax:k<l.length:=by omega
   have bL:(k:Int)<(l.length:Int):=by omega
   obtain⟨q,hc⟩:=bh ax
   obtain⟨i,o,cc,e,rw,q1,q2,q3,q4⟩:=hs.at (uV hc)
   have Hl:=fun st=>Zte (q:=q) (st:=st)
   have dL:yV l k (m+1)=if q≠0 then k else yV l (k+1) m:=by
    show (if l[k]?.getD 0≠0 then k else yV l (k+1) m)=_
    rw[hc]
    rfl
   rw[dL]at hz
   by_cases c4:q=0
   ·rw[ak (by simpa using c4)]at hz
    simp only[decide_eq_true c4]at Hl
    simp(disch:=first|(simp;done)|omega|rfl) [A.mW,hr,hf,h3,bL,ax,lg,q1,q2,q3,q4,Hl]
    exact⟨m,by omega,k+1,by omega,by simp,hz⟩
   ·rw[ay c4]at hz
    simp only[decide_eq_false c4]at Hl
    simp[A.mW,hr,hf,h3,bL,ax,lg,q1,q2,q3,q4,Hl,hz]
 ·rintro e r _ hr ⟨rfl,rfl,h3⟩
  simp[hr,h3]
def DI{l:List V}:(l.map fun y=>[y]).flatten=l:=by
 induction l with
 |nil=>rfl
 |cons a t ih=>simp[ih]
structure JS (h:T O) (N R:Nat) (l:List Rat):Prop where
 lt:R<N
 get:h.get R=some (.cells (tx l) 24 true)
def JS.put{R j:Nat}{q:Rat}(s:JS h N R l)(hj:j<l.length):ad (tx l) j [.str (aR q)]=tx (l.set j q)/\JS (h.set R (.cells (tx (l.set j q)) 24 true)) N R (l.set j q):=by
 refine⟨?_,s.lt,by rw[T.ag,ay rfl]⟩
 rw[zA (by rw[kM];exact hj)]
 simp[tx,strs,List.map_set]
def JS.Hm{R:Nat}(s:JS h N R l):tQ h N (.slice R 0 l.length none 1) l:=⟨Sl.row s.lt s.get (kM l) (fun k hk=>by cases hk),fun i hi=>by
 simp[bZ]at hi
 subst hi
 exact⟨_,_,s.get⟩⟩
def Yb8{n:Nat}(h0:0<n)(hn:n<1000):Fn A.C 139 [.int .i64 n] h N (fun x h' n'=>∃R,x=.slice R 0 n none 1/\N<=R/\JS h' n' R ((List.range n).map fun _=>0)):=by
 intro w
 rw[aN,A.k139 (by simp)]
 simp[A.b139]
 refine bG [(3,12)] (fun e r st=>e=.exit 0/\av N st.w=[]/\ab h N st.h st.n/\∃v,r.get 3=some v/\Own 1 24 N st.h st.n v ((tx ((List.range n).map fun _=>0)).map fun y=>[y])) (fun m r st=>av N st.w=[]/\ab h N st.h st.n/\∃t v,t+m=n/\r.get 4=some (.int .i64 t)/\r.get 3=some v/\Own 1 24 N st.h st.n v ((tx ((List.range t).map fun _=>0)).map fun y=>[y])) n ?_ ?_ ?_
 ·exact⟨by simp,ab.refl,0,_,by omega,by simp,by simp,Own.nil⟩
 ·rintro m r ⟨H,n1,W⟩ hr hf ⟨hW,hK,t,v,ht,h4,h3,hO⟩
  simp only at hW hK hO
  rw[bk]
  have le:=hK.le
  cases m with
  |zero=>
   obtain rfl:t=n:=by omega
   simp[A.rC,hr,hf,h3,h4,hW,hK]
   exact hO
  |succ m=>
   have ax:t<n:=by omega
   have a_:(t:Int)<(n:Int):=by omega
   have qI:ad [V.str []] 0 [.str [48]]=[.str [48]]:=rfl
   have kD:ab H n1 (H.set n1 (.cells [.str [48]] 24 true)) (n1+1):=ab.refl.new _
   obtain⟨v',h',w',j1,j2,j3,_,j5⟩:=tP (x:=[.str [48]]) (u:=.slice n1 0 1 (some 1) 1) (bytes:=16) (w:=W) (hO.ae kD) (by omega) (by decide) rfl (by simp[eA,St.row,aD]) (by simp[tx,strs];omega)
   have kF:ab h N h' (n1+1+1):=(hK.trans kD).then j3
   simp(disch:=first|(simp;done)|omega|rfl) [A.rC,hr,hf,h3,h4,ax,a_,qI,wU,j1,j2,hW,kF]
   refine⟨m,by omega,t+1,by omega,by simp,?_⟩
   have e:(tx ((List.range (t+1)).map fun _=>(0:Rat))).map (fun y=>[y])=(tx ((List.range t).map fun _=>(0:Rat))).map (fun y=>[y])++[[.str [48]]]:=by
    rw[List.range_succ,List.map_append]
    simp[tx,strs]
    rfl
   rw[e]
   exact j5
 ·rintro _ r ⟨H,n1,W⟩ hr ⟨rfl,hW,hK,v,h3,hO⟩
  simp only at hW hK hO
  obtain⟨hl,⟨hz,_⟩|⟨R,rfl,h1,h2,h3'⟩⟩:=hO
  ·have:=congrArg List.length hz
   simp[tx,strs]at this
   omega
  ·simp[hr,h3,aA,hW,hK]
   refine⟨R,⟨rfl,by rw[kM];simp⟩,h1,h2,?_⟩
   rw[h3',DI]
variable {N j k n:Nat} {f u v:V} {h:T O} {l:List Rat} {m:List (List Rat)}
set_option maxHeartbeats 1000000
def XF(a b:List V):Prop:=∀y∈a,∀z∈b,∀i∈bZ y,i∉bZ z
def Yii{l:List V}{Q:Nat->T O->Nat->V->Prop}(Y:V->Prop)(hQ:∀j h n h' n' c u,Q j h n c->dG (fun i=>i∈bZ u) h n h' n'->kl 73 Y h u->Q j h' n' c)(hs:Sl h N v l)(hl:l.length<1000000000)(hf:∀(j:Nat) (x:V),l[j]?=some x->∀h' n',ab h N h' n'->jg A.C f [x] h' n' (fun u h2 n2=>∃y,u=y/\[y].length=1/\[y].all V.one=true/\(∀q∈[y],Y q)/\Q j h2 n2 y/\∀i∈bZ y,n'<=i/\i<n2)):Fn A.C 116 [v,f] h N (fun u h' n'=>∃out,Own 1 73 N h' n' u out/\out.length=l.length/\out.Pairwise XF/\∀(j:Nat),j<l.length->∃y,out[j]?=some [y]/\Q j h' n' y):=by
 intro w
 have hlen:=hs.len
 rw[aN,A.k116 (by simp)]
 simp(disch:=first|(simp;done)|omega|rfl) [-getElem?_pos,A.b116,hlen]
 refine bG [(5,5),(7,7),(10,20)] (fun e r st=>e=.exit 0/\av N st.w=[]/\ab h N st.h st.n/\∃u out,r.get 5=some u/\Own 1 73 N st.h st.n u out/\out.length=l.length/\out.Pairwise XF/\∀(j:Nat),j<l.length->∃y,out[j]?=some [y]/\Q j st.h st.n y) (fun m r st=>av N st.w=[]/\ab h N st.h st.n/\∃k u out,k+m=l.length/\r.get 10=some (.int .i64 k)/\r.get 5=some u/\Own 1 73 N st.h st.n u out/\out.length=k/\(out=[]->u=.aa)/\(∀c∈out,∀y∈c,Y y)/\(∀c∈out,∀y∈c,∀i∈bZ y,i<st.n)/\out.Pairwise XF/\∀(j:Nat),j<k->∃y,out[j]?=some [y]/\Q j st.h st.n y) l.length ?_ ?_ ?_
 ·exact⟨by simp,ab.refl,0,.aa,[],by omega,by simp,by simp,Own.nil,rfl,fun _=>rfl,by simp,by simp,List.Pairwise.nil,fun j hj=>by omega⟩
 ·rintro m r ⟨H,n1,W⟩ hr cU ⟨hW,hK,k,u,out,hk,fx,h5,ho,fy,qS,hY,hB,hP,cJ⟩
  simp only at hW hK ho cJ hB
  rw[bk]
  cases m with
  |zero=>
   have qT:k=l.length:=by omega
   subst qT
   simp(disch:=first|(simp;done)|omega|rfl) [-getElem?_pos,A.jF,hr,cU,fx,hW,hK]
   exact⟨u,h5,out,ho,fy,hP,cJ⟩
  |succ m=>
   have ax:k<l.length:=by omega
   obtain⟨x,hx⟩:=bh ax
   obtain⟨i,o,cc,e,rw,q1,q2,q3,q4⟩:=(hs.ae hK).at hx
   have bL:(k:Int)<(l.length:Int):=by omega
   have kA:=hK
   simp(disch:=first|(simp;done)|omega|rfl) [-getElem?_pos,A.jF,hr,cU,fx,h5,bL,ax,hlen,q1,q3,q4]
   refine zz (hf k x hx _ _ kA) ?_
   rintro y h3 n3 k3 ⟨_,rfl,c1,c2,cY,c3,cR⟩
   have iN:=k3.le
   have kn:=hK.le
   have kB:=kA.trans k3
   have b1:V.one y=true:=by simpa using c2
   have b2:V.cells y=[y]:=by cases y<;>first|rfl|cases b1
   simp(disch:=first|(simp;done)|omega|rfl) [-getElem?_pos, -V.cells, -V.one,hr,cU,fx,h5,b1,b2,ad]
   have sZ:Own 1 73 N (h3.set n3 (.cells [y] 73 true)) (n3+1) u out:=(ho.ae ((ab.refl).trans k3)).ae (ab.refl.new _)
   obtain⟨v',h',w',f1,f2,f3,f4,fD,f5⟩:=Cf (Y:=Y) (x:=[y]) (u:=.slice n3 0 1 (some 1) 1) (bytes:=24) (w:=W) sZ qS hY (by omega) (by decide) c1 (by simp[eA,St.row,aD]) (by omega)
   rw[f1]
   have fH:¬n1<N:=by omega
   have f6:av N w'=[]:=by rw[f2];simp[av,hW,fH]
   have kz:=(kB.new (.cells [y] 73 true)).then f3
   have k4:ab h3 n3 (h3.set n3 (.cells [y] 73 true)) (n3+1):=ab.refl.new _
   have xc:Q k (h3.set n3 (.cells [y] 73 true)) (n3+1) y:=hQ _ _ _ _ _ _ .aa c3 k4.upd kl.nil
   simp(disch:=first|(simp;done)|omega|rfl) [-getElem?_pos,hr,cU,fx,f6]
   refine⟨m,by omega,kz,k+1,by omega,by simp,out++[[y]],f5,by simp[fy],by simp,fun c' hc z hz=>?_,fun c' hc z hz i hi=>?_,List.pairwise_append.2 ⟨hP,List.pairwise_singleton _ _,fun a ha b hb y1 ph z hz i hi zi=>?_⟩,fun j hj=>?_⟩
   ·rcases kh.1 hc with hc|hc
    ·exact hY c' hc z hz
    ·simp only[uz]at hc;subst hc;exact cY z hz
   ·rcases kh.1 hc with hc|hc
    ·have:=hB c' hc z hz i hi
     show i<_
     omega
    ·simp only[uz]at hc
     subst hc
     obtain rfl:z=y:=by simpa using hz
     have:=(cR i hi).2
     show i<_
     omega
   ·obtain rfl:b=[y]:=by simpa using hb
    obtain rfl:z=y:=by simpa using hz
    have:=hB a ha y1 ph i hi
    have:=(cR i zi).1
    omega
   by_cases p_:j<k
   ·obtain⟨y,g1,g2⟩:=cJ j p_
    exact⟨y,by rw[kJ (by omega)];exact g1,hQ _ _ _ _ _ _ _ (hQ _ _ _ _ _ _ .aa g2 (((ab.refl).trans k3).trans k4).upd kl.nil) f4 fD⟩
   ·obtain rfl:j=k:=by omega
    exact⟨y,by rw[nU (by omega),fy];simp,hQ _ _ _ _ _ _ _ xc f4 fD⟩
 ·rintro _ r ⟨H,n1,W⟩ hr ⟨rfl,hW,hK,u,out,h5,ho,fy,hP,cJ⟩
  simp only at hW hK ho cJ
  simp(disch:=first|(simp;done)|omega|rfl) [-getElem?_pos,hr,h5,aA,hW,hK]
  exact⟨out,ho,fy,hP,cJ⟩
def rD(N0:Nat)(h:T O)(N:Nat)(v:V)(l:List Rat):Prop:=∃out,Own 4 80 N0 h N v out/\out.length=l.length/\∀(j:Nat),j<l.length->∃c,out[j]?=some c/\∀q,l[j]?=some q->fj h N c q
def rD.QT{N0:Nat}(s:rD N0 h N v l):ec h N v l:=by
 obtain⟨out,s1,s2,s3⟩:=s
 exact QU s1 s2 s3
def rD.rows{N0:Nat}(s:rD N0 h N v l):∀i∈bZ v,N0<=i/\i<N:=fun i hi=>by
 obtain⟨out,⟨_,⟨_,rfl⟩|⟨j,rfl,h1,h2,_⟩⟩,_⟩:=s
 ·simp[bZ]at hi
 ·simp[bZ]at hi
  subst hi
  exact⟨h1,h2⟩
def rD.low{N0 N1:Nat}(s:rD N0 h N v l)(hb:N1<=N0):rD N1 h N v l:=by
 obtain⟨out,⟨s0,s1⟩,s2,s3⟩:=s
 refine⟨out,⟨s0,s1.imp id ?_⟩,s2,s3⟩
 rintro⟨i,a,b,c,d⟩
 exact⟨i,a,by omega,c,d⟩
def rD.bz{N0:Nat}{h':T O}{n':Nat}{e:TypeId}(s:rD N0 h n u l)(k:dG (fun i=>i∈bZ v) h n h' n')(hd:kl e NW h v)(he:e≠80):rD N0 h' n' u l:=by
 obtain⟨out,⟨s0,s1⟩,s2,s3⟩:=s
 refine⟨out,⟨s0,s1.imp id ?_⟩,s2,fun j hj=>?_⟩
 ·rintro⟨i,rfl,b,c,d⟩
  refine⟨i,rfl,b,eY c k.le,(k.get i c fun hc=>?_).trans d⟩
  obtain⟨z2,dL,_⟩:=hd i hc
  rw[d]at dL
  simp at dL
  exact he dL.2.symm
 ·obtain⟨c,g1,g2⟩:=s3 j hj
  exact⟨c,g1,fun q hq=>(g2 q hq).bz k hd⟩
def rD.ae{N0:Nat}{h':T O}{N':Nat}(s:rD N0 h N v l)(k:ab h N h' N'):rD N0 h' N' v l:=by
 obtain⟨out,s1,s2,s3⟩:=s
 exact⟨out,s1.ae k,s2,fun j hj=>by
  obtain⟨c,g1,g2⟩:=s3 j hj
  exact⟨c,g1,fun q hq=>(g2 q hq).ae k⟩⟩
def A9(B:Nat)(h:T O)(N:Nat)(v:V)(m:List (List Rat)):Prop:=∃us:List V,Own 1 73 B h N v (us.map fun y=>[y])/\us.length=m.length/\us.Pairwise (fun a b=>∀i∈bZ a,i∉bZ b)/\∀(j:Nat) (l:List Rat),m[j]?=some l->∃u,us[j]?=some u/\rD B h N u l
def A9.DL{B:Nat}(s:A9 B h N v m):gh h N v m:=by
 obtain⟨us,s1,s2,_,s4⟩:=s
 exact⟨us,Sn.one.1 s1.sn,s2,fun j l hl=>by
  obtain⟨u,g1,g2⟩:=s4 j l hl
  exact⟨u,g1,g2.QT⟩⟩
def Zxu{z:Nat}{x:List V}(hx:x.length=z):∀{l:List (List V)},(∀y∈l,y.length=z)->∀{k:Nat},k<l.length->ad l.flatten (k*z) x=(l.set k x).flatten
 |[],_,k,h=>by simp at h
 |y::l,h,0,_=>by
  have hy:=h y nR
  rw[List.flatten_cons,List.set_cons_zero,List.flatten_cons,Nat.zero_mul]
  unfold ad
  rw[List.take_zero,List.nil_append,wX,hx,<-hy,List.drop_left]
 |y::l,h,k+1,hk=>by
  have hy:=h y nR
  have ih:=Zxu hx (l:=l) (fun y hy=>h y (nS _ hy)) (k:=k) (by simpa using hk)
  rw[List.flatten_cons,List.set_cons_succ,List.flatten_cons,<-ih]
  unfold ad
  have e1:(k+1)*z=y.length+k*z:=by rw[hy,iU];omega
  rw[e1,List.take_length_add_append,pe,List.drop_length_add_append]
  simp only[tv]
def Yq4{us:List V}{R:V->V->Prop}(h:us.Pairwise R)(hs:∀a b,R a b->R b a){i j:Nat}{a b:V}(ha:us[i]?=some a)(hb:us[j]?=some b)(aW:i≠j):R a b:=by
 have hi:=f_ ha
 have hj:=f_ hb
 have ea:us[i]=a:=by rw[c9 hi]at ha;exact pc ha
 have eb:us[j]=b:=by rw[c9 hj]at hb;exact pc hb
 have key:=List.pairwise_iff_getElem.1 h
 by_cases hij:i<j
 ·have:=key i j hi hj hij
  rwa [ea,eb]at this
 ·have:=key j i hj hi (by omega)
  rw[ea,eb]at this
  exact hs _ _ this
def A9.row{B:Nat}(s:A9 B h N v m)(hk:m[k]?=some l)(h0:0<l.length):∃R us b c,v=.slice R 0 m.length none 1/\R<N/\h.get R=some (.cells us 73 true)/\us.length=m.length/\us[k]?=some (.slice b 0 l.length none 4)/\B<=b/\b<N/\h.get b=some (.cells c 80 true)/\c.length=l.length*4/\(∀(j:Nat) (q:Rat),l[j]?=some q->∃x,aD c (j*4) 4=some x/\fj h N x q)/\∀h' n' x q j,ab h N h' n'->fj h' n' x q->j<l.length->A9 B (h'.set b (.cells (ad c (j*4) x) 80 true)) n' v (m.set k (l.set j q)):=by
 obtain⟨us,s1,s2,s3,s4⟩:=s
 obtain⟨u,g1,out,⟨o0,o1⟩,o2,o3⟩:=s4 k l hk
 rcases o1 with⟨rfl,_⟩|⟨b,rfl,b1,b2,b3⟩
 ·simp at o2;omega
 obtain⟨_,⟨e1,_⟩|⟨R,rfl,r1,r2,r3⟩⟩:=id s1
 ·have hn:=List.map_eq_nil_iff.1 e1
  subst hn
  simp at g1
 rw[DI]at r3
 rw[o2]at g1
 have aW:¬R=b:=fun e=>by
  subst e
  rw[r3]at b3
  simp at b3
 refine⟨R,us,b,out.flatten,by rw[je,s2],r2,r3,s2,g1,b1,b2,b3,by rw[zj o0,o2],fun j q hq=>?_,fun h' n' x q j qT hx hj=>?_⟩
 ·obtain⟨c,a1,a2⟩:=o3 j (f_ hq)
  exact⟨c,Mt o0 a1,a2 q hq⟩
 have gb:=(qT.get b b2).trans b3
 have gR:=(qT.get R r2).trans r3
 have hjo:j<out.length:=by omega
 have uf:=hx.len.1
 have nuC:uJ out.flatten:=fun y hy m hm=>by
  obtain⟨c,hc,tR⟩:=List.mem_flatten.1 hy
  obtain⟨i,hi⟩:=List.mem_iff_getElem?.1 hc
  have xX:i<l.length:=by have:=f_ hi;omega
  obtain⟨c',a1,a2⟩:=o3 i xX
  rw[hi]at a1
  obtain rfl:c=c':=by simpa using a1
  obtain⟨q',kO⟩:=bh xX
  exact(a2 q' kO).Hn y tR m hm
 have mA:=Zxu uf o0 hjo
 rw[mA]
 have iV:((out.set j x).flatten).length=out.flatten.length:=by
  have h2:∀y∈out.set j x,y.length=4:=fun y hy=>by
   rcases A7 hy with hy|rfl
   ·exact o0 y hy
   ·exact uf
  rw[zj h2,zj o0,sQ]
 have rk:∀{c:List V} {q:Rat},fj h' n' c q->fj (h'.set b (.cells (out.set j x).flatten 80 true)) n' c q:=fun hc=>hc.aI gb nuC iV
 have le:=qT.le
 refine⟨us,⟨fun y hy=>by
  obtain⟨z,_,rfl⟩:=fv.1 hy
  rfl,.inr ⟨R,by rw[je],r1,by omega,?_⟩⟩,by rw[sQ];exact s2,s3,fun i r hr=>?_⟩
 ·rw[DI,T.ag,ak aW]
  exact gR
 ·by_cases e:i=k
  ·subst e
   rw[gK (f_ hk)]at hr
   obtain rfl:l.set j q=r:=by simpa using hr
   refine⟨_,g1,out.set j x,⟨fun y hy=>?_,.inr ⟨b,by rw[sQ,o2],b1,by omega,by rw[T.ag,ay rfl]⟩⟩,by simp[o2],fun t ht=>?_⟩
   ·rcases A7 hy with hy|rfl
    ·exact o0 y hy
    ·exact uf
   ·rw[sQ]at ht
    by_cases et:t=j
    ·subst et
     refine⟨x,by rw[gK hjo],fun q' kO=>?_⟩
     rw[gK hj]at kO
     obtain rfl:q=q':=by simpa using kO
     exact rk hx
    ·obtain⟨c,a1,a2⟩:=o3 t ht
     refine⟨c,by rw[dW (Ne.symm et)];exact a1,fun q' kO=>?_⟩
     rw[dW (Ne.symm et)]at kO
     exact rk ((a2 q' kO).ae qT)
  ·rw[dW (Ne.symm e)]at hr
   obtain⟨u',a1,a2⟩:=s4 i r hr
   have GW:=Yq4 s3 (fun a b h i hi hj=>h i hj hi) a1 g1 e
   obtain⟨XG,⟨p0,p1⟩,p2,p3⟩:=a2.ae qT
   refine⟨u',a1,XG,⟨p0,p1.imp id ?_⟩,p2,fun t ht=>?_⟩
   ·rintro⟨b',rfl,t1,t2,t3⟩
    have Mv:¬b'=b:=fun e=>GW b' (by simp[bZ]) (by simp[bZ,e])
    exact⟨b',rfl,t1,t2,by rw[T.ag,ak Mv];exact t3⟩
   ·obtain⟨c,c1,c2⟩:=p3 t ht
    exact⟨c,c1,fun q' kO=>rk (c2 q' kO)⟩
def Yig(F:List Rat->Rat)(hs:gh h N v m)(hl:m.length<1000000000)(hf:∀l∈m,∀u h' n',ab h N h' n'->ec h' n' u l->jg A.C f [u] h' n' (fun x h2 n2=>Fc h2 n2 x (F l))):Fn A.C 88 [v,f] h N (fun u h' n'=>rD N h' n' u (m.map F)):=by
 obtain⟨us,h1,h2,h3⟩:=hs
 have key:=Zxh (f:=f) (Q:=fun j h n c=>∀q,(m.map F)[j]?=some q->fj h n c q) NW (fun j h n h' n' c u hq k hd q kO=>(hq q kO).bz k hd) h1 (by omega) ?_
 ·intro w
  refine(key w).mono fun u st=>?_
  rintro⟨q1,q2,out,o1,o2,o3⟩
  exact⟨q1,q2,out,o1,by simpa[h2]using o2,fun j hj=>o3 j (by simp at hj;omega)⟩
 ·intro j x hx h' n' hk
  obtain⟨l,hl⟩:=bh (l:=m) (k:=j) (by have:=f_ hx;omega)
  obtain⟨u,g1,g2⟩:=h3 j l hl
  rw[hx]at g1
  obtain rfl:x=u:=by simpa using g1
  refine fun w=>(hf l (bU hl) x h' n' hk (g2.ae hk) w).mono fun y st=>?_
  rintro⟨q1,q2,q3⟩
  obtain⟨c,rfl,hc⟩:=q3.c
  refine⟨q1,q2,c,rfl,hc.len.1,hc.len.2,hc.Hn,fun q hq=>?_⟩
  simp[hl]at hq
  rw[<-hq]
  exact hc
def Zy4{b:List Rat}(hu:gh h N u m)(hv:lV h N v b)(hm:∀r∈m,r.length=n/\∀q∈r,Qb j q)(hn:n<=b.length)(hb:∀q∈b,Qb k q)(hj:1<=j)(hk:1<=k)(hl:n*(j+k+1)+j+k+1<=400000000)(kg:m.length<100000):Fn A.C 65 [u,v] h N (fun x h' n'=>rD N h' n' x (m.map fun r=>mm r b)):=by
 intro w
 rw[aN,A.k65 (by simp)]
 simp(disch:=first|(simp;done)|omega|rfl) [-getElem?_pos,A.b65]
 refine aB (Yig (fun r=>mm r b) hu (by omega) fun l iV x h' n' eF hx=>?_) ?_
 ·obtain⟨b1,b2⟩:=hm l iV
  exact Ylx hx.1 (hv.ae eF) (by omega) b2 hb hj hk (by rw[b1];exact hl)
 ·rintro x h4 n4 k4 hx
  simp(disch:=first|(simp;done)|omega|rfl) [-getElem?_pos,aA]
  exact⟨k4,hx⟩
def Ym5{P:Nat}{a:V}{C:List (List Rat)}{e:TypeId}{rw:Bool}(hp:h.get P=some (.cells [a] e rw))(hP:P<N)(ha:gh h N a C)(hu:ec h N u l)(hC:∀r∈C,r.length=n/\∀q∈r,Qb j q)(hn:n<=l.length)(hb:∀q∈l,Qb k q)(hj:1<=j)(hk:1<=k)(hl:n*(j+k+1)+j+k+1<=400000000)(hCl:C.length<100000):jg A.C (.func 117 [] [.ptr P 0]) [u] h N (fun x h' n'=>rD N h' n' x (C.map fun c=>mm c l)):=by
 intro w
 rw[aN,A.k117 (by simp)]
 simp(disch:=first|(simp;done)|omega|rfl) [-getElem?_pos,A.b117,hp,hP]
 refine aB (Zy4 ha hu.1 hC hn hb hj hk hl hCl) ?_
 rintro x H2 n2 k2 hx
 simp(disch:=first|(simp;done)|omega|rfl) [-getElem?_pos,aA]
 exact⟨k2,hx⟩
def Yih(F:List Rat->List Rat)(hs:gh h N v m)(hl:m.length<100000)(hf:∀l∈m,∀u h' n',ab h N h' n'->ec h' n' u l->jg A.C f [u] h' n' (fun x h2 n2=>rD n' h2 n2 x (F l))):Fn A.C 116 [v,f] h N (fun u h' n'=>A9 N h' n' u (m.map F)):=by
 obtain⟨us,h1,h2,h3⟩:=hs
 have key:=Yii (f:=f) (Q:=fun j h n u=>∀l,(m.map F)[j]?=some l->rD N h n u l) NW (fun j h n h' n' c u hq k hd l hl=>(hq l hl).bz k hd (by simp)) h1 (by omega) ?_
 ·intro w
  refine(key w).mono fun y st=>?_
  rintro⟨q1,q2,out,o1,o2,o4,o3⟩
  obtain⟨ys,rfl⟩:=Zw7 o1.1
  refine⟨q1,q2,ys,o1,by simpa[h2]using o2,(List.pairwise_map.1 o4).imp fun {a b} fU=>fU a (by simp) b (by simp),fun j l hl=>?_⟩
  obtain⟨y,g1,g2⟩:=o3 j (by have:=f_ hl;simp at this;omega)
  refine⟨y,?_,g2 l hl⟩
  rw[fV]at g1
  cases hy:ys[j]? with
  |none=>rw[hy]at g1;simp at g1
  |some z=>rw[hy]at g1;simpa using g1
 ·intro j x hx h' n' hk
  obtain⟨l,hl⟩:=bh (l:=m) (k:=j) (by have:=f_ hx;omega)
  obtain⟨u,g1,g2⟩:=h3 j l hl
  rw[hx]at g1
  obtain rfl:x=u:=by simpa using g1
  refine fun w=>(hf l (bU hl) _ _ _ hk (g2.ae hk) w).mono fun y st=>?_
  rintro⟨q1,q2,q3⟩
  obtain⟨f1,f2,f3⟩:=q3.QT.1.form
  refine⟨q1,q2,y,rfl,rfl,by simp only[List.all_cons,List.all_nil,f1,Bool.and_true],by simpa using f3,fun l' jj=>?_,fun i hi=>q3.rows i hi⟩
  rw[fV,hl]at jj
  obtain rfl:F l=l':=by simpa using jj
  exact q3.low hk.le
def Yhi{c:Nat}{A' B:List (List Rat)}(hu:gh h N u A')(hv:gh h N v B)(hA:b_ A' n)(hB:b_ B c)(hn:B.length<=n)(lS:0<B.length)(XH:A'.length<1000)(Mw:B.length<1000)(hc:c<1000)(qA:cW A' k)(qB:cW B j)(hj:1<=j)(hk:1<=k)(hl:B.length*(j+k+1)+j+k+1<=400000000):Fn A.C 43 [u,v] h N (fun x h' n'=>∃b,N<=b/\A9 b h' n' x (dH A' (eE B c))):=by
 intro w
 obtain⟨l0,gX⟩:=bh lS
 obtain⟨i2,o2,c2,e2,w2,y,q1,q2,q3,q4,q5⟩:=PY hv gX
 rw[mP]at q4
 have lv:=hv.len
 have XI:(0:Int)<(B.length:Int):=by omega
 have ly:=q5.1.len
 rw[hB l0 (bU gX)]at ly
 rw[aN,A.k43 (by simp)]
 simp(disch:=first|(simp;done)|omega|rfl) [-getElem?_pos,A.b43,lv,lS,XI,q1,q2,q3,q4,ly]
 refine aB (Yhg hv (by omega) hB hc) ?_
 rintro x H2 n2 k2 hx
 have hx:=hx.DL
 obtain⟨us,f0,_⟩:=id hx
 have f1:=f0.form.one
 have f2:=f0.form.cells
 have kC:ab H2 n2 ((H2.set n2 (.cells [.aa] 70 true)).set n2 (.cells [x] 70 true)) (n2+1):=(ab.refl.new _).set (aQ _)
 have gC:((H2.set n2 (.cells [.aa] 70 true)).set n2 (.cells [x] 70 true)).get n2=some (.cells [x] 70 true):=by rw[T.ag,ay rfl]
 have qI:ad [V.aa] 0 [x]=[x]:=rfl
 simp(disch:=first|(simp;done)|omega|rfl) [-getElem?_pos, -V.cells, -V.one,f1,f2,qI,bD]
 generalize (H2.set n2 (.cells [.aa] 70 true)).set n2 (.cells [x] 70 true)=G at*
 refine aB (Yih (fun l=>(eE B c).map fun c=>mm c l) ((hu.ae k2).ae kC) (by omega) fun l jj u' h' n' k' mU=>Ym5 ((k'.get n2 (by omega)).trans gC) (by have:=k'.le;omega) ((hx.ae kC).ae k') mU (IK qB hj) (by rw[hA l jj];exact hn) (qA l jj) hj hk hl (by rw[FN];omega)) ?_
 rintro z H3 n3 k3 hz
 simp(disch:=first|(simp;done)|omega|rfl) [-getElem?_pos,aA]
 exact⟨by have:=k2.le;omega,(k2.trans kC).trans k3,_,by have:=k2.le;omega,hz⟩
def sN(f:Nat->Rat):Nat->Rat
 |0=>0
 |n+1=>sN f n+f n
def pD{f g:Nat->Rat}:∀{n:Nat},(∀i,i<n->f i=g i)->sN f n=sN g n
 |0,_=>rfl
 |n+1,h=>by
  unfold sN
  rw[pD fun i hi=>h i (by omega),h n (by omega)]
def IC{f g:Nat->Rat}:∀{n:Nat},sN (fun i=>f i+g i) n=sN f n+sN g n
 |0=>by simp[sN,Rat.add_zero]
 |n+1=>by
  unfold sN
  rw[IC]
  grind
def xS{f:Nat->Rat}{c:Rat}:∀{n:Nat},sN (fun i=>c*f i) n=c*sN f n
 |0=>by simp[sN,Rat.mul_zero]
 |n+1=>by
  unfold sN
  rw[xS]
  grind
def Py{f:Nat->Rat}:∀{n:Nat},(∀i,i<n->f i=0)->sN f n=0
 |0,_=>rfl
 |n+1,h=>by
  unfold sN
  rw[Py fun i hi=>h i (by omega),h n (by omega),Rat.add_zero]
def UF{f:Nat->Nat->Rat}{m:Nat}:∀{n:Nat},sN (fun i=>sN (f i) m) n=sN (fun j=>sN (fun i=>f i j) n) m
 |0=>(Py (n:=m) fun _ _=>rfl).symm
 |n+1=>by
  show sN (fun i=>sN (f i) m) n+sN (f n) m=sN (fun j=>sN (fun i=>f i j) n+f n j) m
  rw[UF,<-IC]
def ID{f:Nat->Rat}{i:Nat}:∀{n:Nat},i<n->(∀j,j<n->j≠i->f j=0)->sN f n=f i
 |0,h,_=>by omega
 |n+1,h,hz=>by
  unfold sN
  by_cases e:i=n
  ·subst e
   rw[Py fun j hj=>hz j (by omega) (by omega),Rat.zero_add]
  ·rw[ID (n:=n) (by omega) fun j hj aW=>hz j (by omega) aW,hz n (by omega) (by omega),Rat.add_zero]
end
end Go.Mx
