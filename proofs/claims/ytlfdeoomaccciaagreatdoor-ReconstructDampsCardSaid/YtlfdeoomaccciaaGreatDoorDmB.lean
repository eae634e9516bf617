/-The diagonal of a matrix, added to-/
import Derived.Test.YtlfdeoomaccciaaGreatDoorSvF
set_option linter.all false
namespace Go.Mx
noncomputable section
open Go Go.Proofs
variable {D m:List (List Rat)} {k n:Nat} {w:List Rat}
set_option maxRecDepth 1000000
def FL(r:List Rat)(k:Nat)(q:Rat):List Rat:=r.set k (r[k]?.getD 0+q)
def nV(m:List (List Rat))(q:Rat):Nat->List (List Rat)
 |0=>m
 |k+1=>(nV m q k).set k (FL (m[k]?.getD []) k q)
def II{m:List (List Rat)}{q:Rat}:∀{k:Nat},(nV m q k).length=m.length
 |0=>rfl
 |k+1=>by rw[nV,sQ,II]
def UL{m:List (List Rat)}{q:Rat}:∀{k j:Nat},k<=j->(nV m q k)[j]?=m[j]?
 |0,_,_=>rfl
 |k+1,j,h=>by rw[nV,dW (by omega),UL (by omega)]
def Yqn{r:List Rat}{q:Rat}:(FL r k q).length=r.length:=by simp[FL]
def Zp1{α:Type}{l:List α}{x y:α}(h:y∈l.set k x):y∈l\/(k<l.length/\y=x):=by
 by_cases hk:k<l.length
 ·exact(A7 h).imp id fun e=>⟨hk,e⟩
 ·rw[List.set_eq_of_length_le (by omega)]at h
  exact .inl h
def UM{m:List (List Rat)}{q:Rat}:∀{k:Nat} {r:List Rat},r∈nV m q k->r∈m\/∃j l,m[j]?=some l/\r=FL l j q
 |0,r,h=>.inl h
 |k+1,r,h=>by
  rcases Zp1 h with h|⟨h1,rfl⟩
  ·exact UM h
  ·rw[II]at h1
   obtain⟨l,hl⟩:=bh h1
   exact .inr ⟨k,l,hl,by rw[hl];rfl⟩
def Yun{q:Rat}(h:b_ m n):b_ (nV m q k) n:=fun r hr=>by
 rcases UM hr with hr|⟨j,l,hl,rfl⟩
 ·exact h r hr
 ·rw[Yqn];exact h l (bU hl)
def Ys9{r:List Rat}{a b:Nat}{q:Rat}(hr:∀x∈r,Qb a x)(hq:Qb b q)(ha:1<=a):∀x∈FL r k q,Qb (a+b+1) x:=fun x hx=>by
 rcases Zp1 hx with h|⟨_,rfl⟩
 ·exact(hr x h).mono (by omega)
 ·exact(FM hr ha k).add hq
def Yuo{a b:Nat}{q:Rat}(hm:cW m a)(hq:Qb b q)(ha:1<=a):cW (nV m q k) (a+b+1):=fun r hr=>by
 rcases UM hr with hr|⟨j,l,hl,rfl⟩
 ·exact fun x hx=>(hm r hr x hx).mono (by omega)
 ·exact Ys9 (hm l (bU hl)) hq ha
def iW(D:List (List Rat))(w:List Rat)(n:Nat):List (List Rat):=(eE D n).map fun r=>yH r w
def uj(D:List (List Rat))(w:List Rat)(n:Nat)(q:Rat):List (List Rat):=nV (dH (iW D w n) (eE D n)) q n
def DG(D:List (List Rat))(w:List Rat)(n:Nat)(q:Rat):List (List Rat):=(sU (uj D w n q) (iW D w n) n D.length).getD []
def xZ:(iW D w n).length=n:=by simp[iW,FN]
def IJ:b_ (iW D w n) w.length:=fun r hr=>by
 obtain⟨l,hl,rfl⟩:=fv.1 hr
 simp[yH]
def B3{q:Rat}:(uj D w n q).length=n:=by rw[uj,II,PA,xZ]
def FO{q:Rat}:b_ (uj D w n q) n:=Yun (by
 have:=@UN (iW D w n) (eE D n)
 rwa [FN]at this)
def Ylc{K L:Nat}(qD:cW D K)(qw:∀x∈w,Qb L x)(hK:1<=K)(hL:1<=L):cW (iW D w n) (K+L):=fun r hr=>by
 obtain⟨l,hl,rfl⟩:=fv.1 hr
 exact Yqg (IK qD hK l hl).2 qw hK hL
def UO{K L:Nat}(qD:cW D K)(qw:∀x∈w,Qb L x)(hK:1<=K)(hL:1<=L):cW (dH (iW D w n) (eE D n)) (D.length*(K+(K+L)+1)+1):=
 Yqq (Ylc qD qw hK hL) (IK qD hK) hK (by omega)
def Yug{n:Nat}:cW (gg n) 1:=fun r hr q hq=>by
 obtain⟨i,_,rfl⟩:=fv.1 hr
 obtain⟨j,_,rfl⟩:=fv.1 hq
 split
 ·exact⟨by decide,by decide⟩
 ·exact Qb.zero
def Yrr{G H:List (List Rat)}{n Z:Nat}{B:Nat->Nat}(hG:b_ G n)(hl:G.length=n)(UP:∀k,cW (aU (dc G (gg n)) k).1 (B (aU (dc G (gg n)) k).2.1))(hZ:B n<=Z)(hs:x9 G n=some H):cW H Z/\H.length=n/\b_ H n:=by
 have hW:=yK hG (PB (n:=n)) (by rw[PC,hl];exact aQ _)
 unfold x9 at hs
 split at hs
 ·rename_i hc
  obtain rfl:=pc hs
  refine⟨fun r lG q hq=>?_,by rw[je,Kt hW];exact hc.1,fun r lG=>?_⟩
  ·obtain⟨z,hz,rfl⟩:=fv.1 lG
   exact(UP (n+n) z (yL hz) q (IL hq)).mono (by rw[hc.1];exact hZ)
  ·obtain⟨z,hz,rfl⟩:=fv.1 lG
   rw[x_,PD hW z hz]
   omega
 ·cases hs
set_option maxHeartbeats 4000000
set_option maxHeartbeats 1000000
variable {N:Nat} {h:T O} {v:V}
def A.w6:=A.q Tryz.f6
def A.wO:=A.ql A.w6 1 []
def A.zv:=(fun x0=>A.ql A.w6 0 [x0]) A.wO
def A.b6:=(fun x0=>A.qb A.w6 [x0]) A.zv
def A.k6:=@A.kk 6 32 [.tmp 4] A.b6 (by kernel_rfl) rfl
def Ku(n:Nat)(x:List aM):Bool:=x.all fun s=>decide (s.length<=n)
def IM(n:Nat)(l:List (List aM)):Bool:=l.all (Ku n)
def Yjz{n:Nat}{w:List Nat}{l:List (List aM)}(hs:iJ h N v l)(hl:l.length<100000)(hx:∀x∈l,x.length<100000):A.C.call (.func 6 [] []) [v,.int .i64 n] ⟨h,N,w⟩=some (.bool (IM n l),⟨h,N,w⟩):=by
 apply Call.eq
 have lg:=hs.len
 rw[aN,A.k6 (by simp)]
 simp[A.b6]
 refine bG [(4,31)] (fun e r st=>st=⟨h,N,[]⟩/\((e=.exit 0/\IM n l=true)\/(e=.ret/\IM n l=false/\r.get 4=some (.bool false)))) (fun m r st=>st=⟨h,N,[]⟩/\∃k,k+m=l.length/\r.get 5=some (.int .i64 k)/\IM n l=(l.drop k).all (Ku n)) l.length ?_ ?_ ?_
 ·exact⟨rfl,0,by omega,by simp,rfl⟩
 ·rintro m r _ hr hf ⟨rfl,k,hk,h5,hz⟩
  rw[bk]
  cases m with
  |zero=>
   obtain rfl:k=l.length:=by omega
   rw[pg,List.all_nil]at hz
   simp[A.zv,hr,hf,h5,lg,hz]
  |succ m=>
   have ax:k<l.length:=by omega
   have bL:(k:Int)<(l.length:Int):=by omega
   obtain⟨x,Kv⟩:=bh ax
   have uf:=hx x (bU Kv)
   obtain⟨i,o,cc,e,rw,u,q1,q2,q3,q4,q5⟩:=hs.at Kv
   have lu:=q5.len
   rw[wP]at lu
   rw[lH Kv,List.all_cons]at hz
   simp[A.zv,hr,h5,lg,bL]
   refine bG [(4,4),(6,6),(13,31)] (fun e r' st=>st=⟨h,N,[]⟩/\((e=.exit 2/\Ku n x=true)\/(e=.ret/\Ku n x=false/\r'.get 4=some (.bool false)))) (fun m' r' st=>st=⟨h,N,[]⟩/\∃t,t+m'=x.length/\r'.get 6=some (.int .i64 t)/\Ku n x=(x.drop t).all fun s=>decide (s.length<=n)) x.length ?_ ?_ ?_
   ·exact⟨rfl,0,by omega,by simp,rfl⟩
   ·rintro m' r' _ lG zw ⟨rfl,t,ht,h6,hy⟩
    rw[bk]
    cases m' with
    |zero=>
     obtain rfl:t=x.length:=by omega
     rw[pg,List.all_nil]at hy
     simp[A.wO,lG,zw,hr,h5,h6,lg,bL,lu,q1,q3,q4,hy]
    |succ m'=>
     have cX:t<x.length:=by omega
     have IN:(t:Int)<(x.length:Int):=by omega
     obtain⟨s,dJ⟩:=bh cX
     obtain⟨i2,o2,c2,e2,IP,p1,p2,p3,p4⟩:=q5.at (DH dJ)
     rw[lH dJ,List.all_cons]at hy
     have e1:((n:Int)<(s.length:Int))=(n<s.length):=by apply propext;omega
     by_cases c:n<s.length
     ·have c':decide (s.length<=n)=false:=by simpa using c
      rw[c',B4]at hy
      simp[A.wO,lG,zw,hr,h5,h6,lg,bL,lu,IN,q1,q3,q4,p1,p3,p4,e1,c,hy]
     ·have c':decide (s.length<=n)=true:=by simpa using c
      rw[c',Bool.true_and]at hy
      simp(disch:=first|(simp;done)|omega|rfl) [A.wO,lG,zw,hr,h5,h6,lg,lu,IN,q1,q3,q4,p1,p3,p4,e1,c]
      exact⟨m',by omega,t+1,by omega,by simp,hy⟩
   ·rintro _ r' _ lG ⟨rfl,⟨rfl,hy⟩|⟨rfl,hy,h4⟩⟩
    ·rw[hy,Bool.true_and]at hz
     have B5:=hf.inner (D':=[(4,4),(6,6),(13,31)]) (by decide) (fun hx=>by simpa[Fx.set]using hx) lG
     simp(disch:=first|(simp;done)|omega|rfl) [lG,B5,h5]
     exact⟨m,by omega,k+1,by omega,by simp,hz⟩
    ·rw[hy,B4]at hz
     have B5:=hf.inner (D':=[(4,4),(6,6),(13,31)]) (by decide) (fun hx=>by simpa[Fx.set]using hx) lG
     simp[B5,h4,hz]
 ·rintro _ r _ hr ⟨rfl,⟨rfl,hz⟩|⟨rfl,hz,h4⟩⟩
  ·simp[hz]
  ·simp[h4,hz]
def FQ(B:Nat)(h:T O)(N:Nat)(v:V)(l:List V):Prop:=(∃i,v=.slice i 0 l.length (some l.length) 1/\B<=i/\i<N/\h.get i=some (.cells l 23 true))\/Own 1 23 B h N v (l.map fun y=>[y])
def FQ.sl{B:Nat}{l:List V}(s:FQ B h N v l):Sl h N v l:=by
 rcases s with⟨i,rfl,_,h2,h3⟩|s
 ·exact Sl.row h2 h3 rfl (fun k hk=>by simp at hk;omega)
 ·exact Sn.one.1 s.sn
def FQ.app{B:Nat}{u:V}{l xs:List V}{w:List Nat}(s:FQ B h N v l)(h0:0<l.length)(hu:Sl h N u xs)(hB:B<=N)(hb:l.length+xs.length<100000):∃v' h' n' w',gJ ⟨h,N,w⟩ 1 24 23 v u=some (v',⟨h',n',w'⟩)/\ab h B h' n'/\av B w'=av B w/\N<=n'/\FQ B h' n' v' (l++xs):=by
 have l8:=IQ (w:=w) (Sn.one.2 hu)
 rw[je,DI]at l8
 by_cases hx:xs.length=0
 ·have jx:=List.length_eq_zero_iff.1 hx
  subst jx
  refine⟨v,h,N,w,?_,⟨hB,fun i _=>rfl⟩,rfl,aQ _,by rw[zy];exact s⟩
  rcases s with⟨i,rfl,_⟩|⟨_,⟨hc,_⟩|⟨i,rfl,_⟩⟩
  ·simp[gJ,l8]
  ·rw[List.map_eq_nil_iff]at hc
   rw[hc]at h0
   simp at h0
  ·simp[gJ,l8]
 ·rcases s with⟨i,rfl,b1,b2,b3⟩|s
  ·have UQ:aD l 0 (l.length*1)=some l:=by unfold aD;simp
   refine⟨.slice N 0 (l.length+xs.length) none 1,h.set N (.cells (l++xs) 23 true),N+1,w,?_,⟨by omega,fun j hj=>by rw[T.ag,ak (by omega)]⟩,rfl,by omega,.inr ⟨fun y hy=>by obtain⟨z,_,rfl⟩:=fv.1 hy;rfl,.inr ⟨N,by simp,hB,by omega,by rw[T.ag,ay rfl,DI]⟩⟩⟩
   simp only[gJ,l8,St.row,b3,uk,St.alloc,UQ]
   rw[ak hx,ak (by rintro(h|h|h)<;>omega),ak (by omega)]
  ·have lx:(xs.map fun y=>[y]).length=xs.length:=je _
   obtain⟨v',h',w',f1,f2,f3,_,_,f5⟩:=UR (Y:=fun _=>True) (xs:=xs.map fun y=>[y]) (u:=u) (bytes:=24) (w:=w) s (fun hc=>by rw[List.map_eq_nil_iff]at hc;rw[hc]at h0;simp at h0) (fun _ _ _ _=>trivial) hB (by decide) (fun x hx=>by obtain⟨y,_,rfl⟩:=fv.1 hx;rfl) (by rw[lx];omega) (IQ (Sn.one.2 hu)) (by rw[je,lx];omega)
   exact⟨v',h',N+1,w',f1,f3,f2,by omega,.inr (by rw[List.map_append];exact f5)⟩
def wQ(h:T O)(N:Nat)(us:List V)(m:List (List aM)):Prop:=us.length=m.length/\∀(j:Nat) (l:List aM),m[j]?=some l->∃u,us[j]?=some u/\Sl h N u (strs l)
def wQ.app{us vs:List V}{a b:List (List aM)}(s:wQ h N us a)(t:wQ h N vs b):wQ h N (us++vs) (a++b):=by
 obtain⟨s1,s2⟩:=s
 obtain⟨t1,t2⟩:=t
 refine⟨by simp[s1,t1],fun j l hl=>?_⟩
 by_cases hj:j<a.length
 ·rw[kJ hj]at hl
  obtain⟨u,g1,g2⟩:=s2 j l hl
  exact⟨u,by rw[kJ (by omega)];exact g1,g2⟩
 ·rw[nU (by omega)]at hl
  obtain⟨u,g1,g2⟩:=t2 _ l hl
  exact⟨u,by rw[nU (by omega),s1];exact g1,g2⟩
def wQ.ae{h':T O}{N':Nat}{us:List V}{m:List (List aM)}(s:wQ h N us m)(k:ab h N h' N'):wQ h' N' us m:=⟨s.1,fun j l hl=>by
 obtain⟨u,a,b⟩:=s.2 j l hl
 exact⟨u,a,b.ae k⟩⟩
def wQ.one{h:T O}{N:Nat}{u:V}{l:List aM}(s:Sl h N u (strs l)):wQ h N [u] [l]:=⟨rfl,fun j x hx=>by
 cases j with
 |zero=>
  obtain rfl:l=x:=by simpa using hx
  exact⟨u,rfl,s⟩
 |succ j=>simp at hx⟩
variable {N:Nat} {h:T O} {m:List (List aM)} {v:V}
def iJ.rows(s:iJ h N v m):∃us,Sl h N v us/\wQ h N us m:=by
 obtain⟨us,a,b,c⟩:=s
 exact⟨us,a,b,c⟩
def wQ.mts{us:List V}(s:wQ h N us m)(hs:Sl h N v us):iJ h N v m:=⟨us,hs,s.1,s.2⟩
def Yva{u:V}{l:List aM}{w:List Nat}(hl:Sl h N v (strs l))(hm:iJ h N u m)(hb:m.length<1000):∃x h' n' w',gJ ⟨h.set N (.cells [v] 23 true),N+1,w⟩ 1 24 23 (.slice N 0 1 (some 1) 1) u=some (x,⟨h',n',w'⟩)/\ab h N h' n'/\av N w'=av N w/\∃us,us.length=m.length+1/\FQ N h' n' x us/\wQ h N us ([l]++m):=by
 obtain⟨us,s1,s2⟩:=hm.rows
 have kN:ab h N (h.set N (.cells [v] 23 true)) (N+1):=ab.refl.new _
 have lv:FQ N (h.set N (.cells [v] 23 true)) (N+1) (.slice N 0 1 (some 1) 1) [v]:=.inl ⟨N,rfl,aQ _,by omega,by rw[T.ag,ay rfl]⟩
 obtain⟨x,h',n',w',f1,f2,f3,_,f5⟩:=lv.app (w:=w) (by simp) (s1.ae kN) (by omega) (by have:=s2.1;simp;omega)
 exact⟨x,h',n',w',f1,kN.then f2,f3,_,by simp[s2.1],f5,(wQ.one hl).app s2⟩
def Yin{k n:Nat}(h:nW k n=true)(hn:n<64):k<=66:=US h hn
def Ym1{m:List (List Rat)}(h:cW m 400000000):∀r∈m,∀q∈r,(aR q).length<1000000000:=fun r hr q hq=>Zsa (h r hr q hq) (by decide)
def Ymg{a c:Nat}{b:List (List aM)}(h:pR a c b=true):nW b.length a=true/\∀r∈b,fW c r=true:=by
 unfold pR at h
 rw[iy]at h
 exact⟨h.1,fun r hr=>l7.1 h.2 r hr⟩
def Ysg{R d r e:Nat}(h1:R<=r)(h2:d<=e):uR R d<=(e+2)*(r+e+1):=by
 unfold uR
 exact wS (by omega) (by omega)
def Ypd{R d r e z:Nat}(h1:R<=r)(h2:d<=e)(h3:(e+2)*(r+e+1)<=z):uR R d<=z:=tk (Ysg h1 h2) h3
def Yrs{G:List (List Rat)}{k b:Nat}(hG:b_ G k)(hl:G.length=k)(qG:cW G b)(hb:1<=b)(i:Nat):cW (aU (dc G (gg k)) i).1 (uR ((k+k)*b+1) (aU (dc G (gg k)) i).2.1):=
 have hw:b_ (dc G (gg k)) (k+k):=yK hG PB (by rw[PC,hl];exact aQ _)
 Yk6 (Ycg (Ybf qG (Yug.mono hb)) hw) hw (by omega) i
set_option maxHeartbeats 2000000
def Yq9{s:aM}{h:T O}{N:Nat}(hc:bf s=0)(hl:s.length<=24):Fn A.C 45 [.str s] h N (fun x h' n'=>Fc h' n' x (fw s)):=by
 obtain⟨t1,t2,t3⟩:=FR hc
 have l1:(aK (fw s).num).length<=100000:=by
  have:(aK (fw s).num).length<=(ar (fw s).num.natAbs).length+1:=by unfold aK;split<;>simp
  omega
 have sV:=UT (q:=fw s) (h:=h) (N:=N) l1 (by omega)
 rw[t1]at sV
 exact sV
variable {D:List (List Rat)} {N n:Nat} {h:T O} {w:List Rat}
def A.b36:=A.q Tryz.f36
def A.k36:=@A.kk 36 6 [.tmp 2] A.b36 (by kernel_rfl) rfl
def A.b38:=A.q Tryz.f38
def A.k38:=@A.kk 38 5 [.tmp 1] A.b38 (by kernel_rfl) rfl
def Yo0{q p:Nat}{u v:V}{m:List (List aM)}{l:List aM}{eq ep:TypeId}{wq wp:Bool}(FT:h.get q=some (.cells [u] eq wq))(PE:q<N)(nX:h.get p=some (.cells [v] ep wp))(hlp:p<N)(hs:iJ h N u m)(kg:m.length<100000)(df:∀x∈m,x.length<100000/\∀s∈x,s.length<=100000)(ht:Sl h N v (strs l))(sP:l.length<100000)(Kw:∀s∈l,s.length<=100000):jg A.C (.func 36 [] [.ptr q 0,.ptr p 0]) [] h N (fun z _ _=>z=.int .i64 (B6 m l)):=by
 intro w
 rw[aN,A.k36 (by simp)]
 simp(disch:=first|(simp;done)|omega|rfl) [-getElem?_pos,A.b36,FT,nX]
 refine aB (Ysh hs ht kg df sP Kw) ?_
 rintro _ H2 n2 k2 rfl
 simp(disch:=first|(simp;done)|omega|rfl) [-getElem?_pos,aA]
 exact k2
def Yoz{q:Nat}{s:aM}{e:TypeId}{w0:Bool}(FT:h.get q=some (.cells [.str s] e w0))(PE:q<N)(hl:s.length<=100000):jg A.C (.func 38 [] [.ptr q 0]) [] h N (fun z _ _=>z=.int .i64 (kL 1 s)):=by
 intro w
 have sg:Fn A.C 39 [.int .i64 1] h N (fun z h' n'=>z=.func 113 [] [.ptr N 0]/\h'.get N=some (.cells [.int .i64 1] 3 true)/\N<n'):=by
  intro w
  rw[aN,A.k39 (by simp)]
  simp(disch:=first|(simp;done)|omega|rfl) [-getElem?_pos,A.b39,aA]
  exact ab.refl.new _
 rw[aN,A.k38 (by simp)]
 simp(disch:=first|(simp;done)|omega|rfl) [-getElem?_pos,A.b38]
 refine aB sg ?_
 rintro _ H1 n1 k1 ⟨rfl,g1,lt⟩
 have g2:=(k1.get q PE).trans FT
 have uT:=k1.le
 have lq:q<n1:=by omega
 simp(disch:=first|(simp;done)|omega|rfl) [-getElem?_pos,g2,lq]
 refine zz (Zpj g1 lt hl) ?_
 rintro _ H2 n2 k2 rfl
 simp(disch:=first|(simp;done)|omega|rfl) [-getElem?_pos,aA,lq]
 exact k1.trans k2
def FU(m:List (List aM))(l:List aM)(s:aM):Int:=cH [B6 m l,kL 1 s]
def DJ(m:List (List aM))(l:List aM)(s:aM):List (List Rat):=DG (eP m) (l9 l) (dR m) (fw s)
def Yfj{s:aM}(h:kL 1 s=0):bf s=0:=by
 unfold kL at h
 split at h
 ·assumption
 ·rename_i h0
  exact absurd (by omega:bf s=0) h0
def UU{n s:Nat}(hn:n<=6)(hs:s<=6):s*(100+(100+100)+1)+1+100+1<=1908:=by omega
def UW{n s i:Nat}(hn:n<=6)(hs:s<=6)(hi:i<=6):uR ((n+s)*1908+1) i<=183232:=by
 have h1:(n+s)*1908+1<=22897:=by omega
 exact Ypd h1 hi (by decide)
def Ysd{q:Rat}(qD:cW D 100)(qw:∀x∈w,Qb 100 x)(hq:Qb 100 q)(hs:D.length<=6):cW (uj D w n q) 1908:=fun r hr x hx=>
 ((Yuo (UO (n:=n) qD qw (by decide) (by decide)) hq (by omega)) r hr x hx).mono (by have:=@UU 6 D.length (by decide) hs;omega)
def PF(qD:cW D 100)(qw:∀x∈w,Qb 100 x):cW (iW D w n) 200:=Ylc qD qw (by decide) (by decide)
def Ysc{q:Rat}(qD:cW D 100)(qw:∀x∈w,Qb 100 x)(hq:Qb 100 q)(hs:D.length<=6)(hw:w.length=D.length)(k:Nat):cW (aU (dc (uj D w n q) (iW D w n)) k).1 (uR ((n+D.length)*1908+1) (aU (dc (uj D w n q) (iW D w n)) k).2.1):=
 have hc:b_ (dc (uj D w n q) (iW D w n)) (n+D.length):=yK FO (by rw[<-hw];exact IJ) (by rw[B3,xZ];exact aQ _)
 Yk6 (Ycg (Ybf (Ysd qD qw hq hs) (fun r hr x hx=>(PF qD qw r hr x hx).mono (by decide))) hc) hc (by omega) k
def Ztr{q:Rat}{H:List (List Rat)}(qD:cW D 100)(qw:∀x∈w,Qb 100 x)(hq:Qb 100 q)(hn:n<=6)(hs:D.length<=6)(hw:w.length=D.length)(h:sU (uj D w n q) (iW D w n) n D.length=some H):cW H 183232/\H.length<=n/\b_ H D.length:=
 Yqu (B:=uR ((n+D.length)*1908+1)) FO (by rw[<-hw];exact IJ) (by rw[B3,xZ];exact aQ _) (Ysc qD qw hq hs hw) (fun i hi=>UW hn hs (by omega)) (by rw[B3];exact aQ _) h
def gh.none:gh h N .aa []:=⟨[],.inl ⟨rfl,.inl rfl⟩,rfl,fun j l hl=>by simp at hl⟩
variable {N:Nat} {h:T O} {m:List (List Rat)}
set_option maxHeartbeats 4000000
def A.w13:=A.q Tryz.f13
def A.uU:=A.ql A.w13 0 []
def A.b13:=(fun x0=>A.qb A.w13 [x0]) A.uU
def A.k13:=@A.kk 13 57 [.tmp 6] A.b13 (by kernel_rfl) rfl
def jC.fresh{N0:Nat}{h':T O}{N' R M t:Nat}{l:List Rat}{us:List V}(s:jC N0 h N R m)(g:h.get R=some (.cells us 23 true))(ht:t<m.length)(hR:h'.get R=some (.cells (us.set t (.slice M 0 l.length none 1)) 23 true))(hMg:h'.get M=some (.cells (tx l) 24 true))(hML:M<N')(hk:∀i,i<N->i≠R->h'.get i=h.get i)(hn:N<=N'):jC N0 h' N' R (m.set t l):=by
 obtain⟨vs,g1,g2,g5⟩:=s.ex
 rw[g]at g1
 simp only[aq,O.cells.injEq]at g1
 obtain⟨rfl,_⟩:=g1
 refine⟨s.ge,eY s.lt hn,_,hR,by simp[g2],fun j r hr=>?_⟩
 by_cases e:j=t
 ·subst e
  rw[gK ht]at hr
  obtain rfl:l=r:=by simpa using hr
  exact⟨_,by rw[gK (by omega)],Sl.row hML hMg (kM l) (fun k hk=>by cases hk),fun i hi=>.inr ⟨_,_,by
   simp[bZ]at hi
   subst hi
   exact hMg⟩⟩
 ·rw[dW (Ne.symm e)]at hr ⊢
  obtain⟨u',a1,a2⟩:=g5 j r hr
  have aW:∀i∈bZ u',i≠R:=fun i hi hc=>by
   rcases a2.2 i hi with h1|⟨z,w,hz⟩
   ·have:=s.ge
    omega
   ·rw[hc,g]at hz
    simp at hz
  have k:dG (fun i=>i=R) h N h' N':=⟨hn,fun i hi hd=>hk i hi hd⟩
  exact⟨u',a1,Sl.bz a2.1 k aW,fun i hi=>(a2.2 i hi).imp id fun ⟨z,w,hz⟩=>⟨z,w,by rw[hk i (Kx a2.1 i hi) (aW i hi)];exact hz⟩⟩
def jC.UX{N0:Nat}{R:Nat}(s:jC N0 h N R m):gj h N (.slice R 0 m.length none 1) m:=by
 obtain⟨us,g1,g2,g5⟩:=s.ex
 exact⟨us,Sl.row s.lt g1 g2 (fun k hk=>by cases hk),g2,fun j l hl=>by
  obtain⟨u,a1,a2⟩:=g5 j l hl
  exact⟨u,a1,a2.1⟩⟩
def gT.rwt{B:Nat}{v:V}(s:gT B h N v m)(h0:0<m.length):∃R,v=.slice R 0 m.length none 1/\jC B h N R m:=by
 obtain⟨us,⟨_,⟨e,_⟩|⟨R,rfl,h1,h2,h3⟩⟩,s2,s3,s4⟩:=s
 ·have hn:=List.map_eq_nil_iff.1 e
  subst hn
  simp at s3
  omega
 ·rw[DI]at h3
  exact⟨R,by rw[je,s3],h1,h2,us,h3,s3,fun j l hl=>by
   obtain⟨u,a1,a2⟩:=s4 j l hl
   exact⟨u,a1,a2.old⟩⟩
def Yqp{l:List Rat}{t:Nat}{q:Rat}:(tx l).set t (.str (aR q))=tx (l.set t q):=by
 unfold tx strs
 rw[List.map_set,List.map_set]
def Yhc{n:Nat}{u v:V}{D:List (List Rat)}{w:List Rat}{q:Rat}(hu:gj h N u D)(hv:Tx h N v w)(hD:b_ D n)(hw:w.length=D.length)(pS:0<n)(hn:n<=6)(tl:0<D.length)(hs:D.length<=6)(qD:cW D 100)(qw:∀x∈w,Qb 100 x)(hq:Qb 100 q):Fn A.C 13 [u,v,.str (aR q)] h N (fun x h' n'=>gj h' n' x (DG D w n q)):=by
 intro W
 rw[aN,A.k13 (by simp)]
 simp(disch:=first|(simp;done)|omega|rfl) [-getElem?_pos,A.b13]
 refine aB (Zwt hu hD (by omega) (by omega) tl) ?_
 rintro y1 H1 n1 k1 ph
 simp(disch:=first|(simp;done)|omega|rfl) [-getElem?_pos,]
 refine aB (Zyx (j:=100) (k:=100) ph.ya (hv.ae k1) (fun r hr=>by
  obtain⟨a1,a2⟩:=IK qD (by decide) r hr
  exact⟨by rw[a1,hw],a2⟩) qw (by decide) (by decide) (by rw[FN];omega) (by omega)) ?_
 rintro y2 H2 n2 k2 sW
 change gT n1 H2 n2 y2 (iW D w n)at sW
 have uT:=k1.le
 have kK:=k2.le
 simp(disch:=first|(simp;done)|omega|rfl) [-getElem?_pos,]
 refine aB (Zpq (c:=n) (j:=100) (k:=200) sW.ya ((hu.ae k1).ae k2) (fun r hr=>by rw[IJ r hr,hw];exact aQ _) hD tl (by rw[xZ];omega) (by omega) (by omega) (PF qD qw) qD (by decide) (by decide) (by omega)) ?_
 rintro y3 H3 n3 k3 ⟨b,hb,UY⟩
 have yM:=k3.le
 have IS:(dH (iW D w n) (eE D n)).length=n:=by rw[PA,xZ]
 have UZ:b_ (dH (iW D w n) (eE D n)) n:=by
  have:=@UN (iW D w n) (eE D n)
  rwa [FN]at this
 have U0:=UO (n:=n) qD qw (by decide) (by decide)
 have FV:=@UU n D.length hn hs
 have eG:uj D w n q=nV (dH (iW D w n) (eE D n)) q n:=rfl
 obtain⟨R,rfl,hR⟩:=UY.rwt (by omega)
 rw[IS]
 generalize dH (iW D w n) (eE D n)=G0 at*
 simp(disch:=first|(simp;done)|omega|rfl) [-getElem?_pos,]
 refine bG [(9,9),(19,48)] (fun e r st=>e=.exit 0/\av n2 st.w=[]/\ab H2 n2 st.h st.n/\jC b st.h st.n R (nV G0 q n)) (fun i r st=>av n2 st.w=[]/\ab H2 n2 st.h st.n/\∃t:Nat,t+i=n/\r.get 9=some (.int .i64 t)/\jC b st.h st.n R (nV G0 q t)) n ?_ ?_ ?_
 ·exact⟨by simp[ui],k3,0,by omega,by simp,hR⟩
 ·rintro i r ⟨H,m,W⟩ hr hf ⟨hW,hK,t,ht,h9,hL⟩
  simp only at hW hK hL
  rw[bk]
  have leK:=hK.le
  cases i with
  |zero=>
   obtain rfl:t=n:=by omega
   simp(disch:=first|(simp;done)|omega|rfl) [-getElem?_pos,A.uU,hr,hf,h9,hW,hK]
   exact hL
  |succ i=>
   have ax:t<n:=by omega
   have a_:(t:Int)<(n:Int):=by omega
   obtain⟨row,al⟩:=bh (l:=G0) (k:=t) (by omega)
   have iX:(nV G0 q t)[t]?=some row:=by rw[UL (aQ _)];exact al
   have qJ:row.length=n:=UZ row (bU al)
   obtain⟨q0,pj⟩:=bh (l:=row) (k:=t) (by omega)
   have gF:=U0 row (bU al) q0 (bU pj)
   obtain⟨us,x,p1,p2,p3,p4⟩:=hL.at iX
   have p5:=hL.lt
   have p6:=hL.ge
   rw[II,IS]at p2
   have ki:(tx row)[t]?=some (.str (aR q0)):=uV pj
   have U5:(tx row).length=n:=by rw[kM];exact qJ
   have d1:¬R=m:=by omega
   have d2:¬R=m+1:=by omega
   have ap:=fun w=>Yfs (n:=m) (w:=w) (p4.1.ae (ab.refl (h:=H) (n:=m))) (by omega) (by omega)
   rw[U5]at ap
   have sp:=zA (l:=us) (i:=t) (u:=.slice (m+1) 0 n none 1) (by omega)
   have hle:t+1<=n:=ax
   have c1:(V.slice (m+1) 0 n none 1).cells=[V.slice (m+1) 0 n none 1]:=rfl
   have c2:V.one (V.slice (m+1) 0 n none 1)=true:=rfl
   have c3:(us.set t (V.slice (m+1) 0 n none 1))[t]?=some (V.slice (m+1) 0 n none 1):=by rw[gK (by omega)]
   have d3:¬m=R:=by omega
   have d4:¬m+1=R:=by omega
   have d5:R<m+1+1:=by omega
   have l2:us.length=n:=p2
   simp(disch:=first|(simp;done)|omega|rfl) [-getElem?_pos, -V.cells, -V.one,A.uU,hr,hf,h9,ax,a_,p1,p2,p3,d1,d2,d3,d4,wU,ap,bD,c1,c2,c3,sp,ki,U5,hle]
   obtain⟨G,hG⟩:∃G,G=((H.set m (.cells [] 24 true)).set (m+1) (.cells (tx row) 24 true)).set R (.cells (us.set t (.slice (m+1) 0 n none 1)) 23 true):=⟨_,rfl⟩
   have gR:G.get R=some (.cells (us.set t (.slice (m+1) 0 n none 1)) 23 true):=by rw[hG,T.ag,ay rfl]
   have gM:G.get (m+1)=some (.cells (tx row) 24 true):=by rw[hG,T.ag,ak (by omega),T.ag,ay rfl]
   have gO:∀i,i<m->i≠R->G.get i=H.get i:=fun i hi aW=>by rw[hG,T.ag,ak (by omega),T.ag,ak (by omega),T.ag,ak (by omega)]
   rw[<-hG]
   clear hG ap
   refine aB (U6 (a:=q0) (b:=q) gF hq (by omega) (by decide)) ?_
   rintro _ H4 n4 k4 rfl
   have FW:=k4.le
   have gR4:=(k4.get R (by omega)).trans gR
   have gM4:=(k4.get (m+1) (by omega)).trans gM
   have d6:R<n4:=by omega
   have d7:m+1<n4:=by omega
   have e9:nV G0 q (t+1)=(nV G0 q t).set t (row.set t (q0+q)):=by
    rw[nV,al,pd,FL,pj,pd]
   have sp2:=zA (l:=tx row) (i:=t) (u:=.str (aR (q0+q))) (by omega)
   rw[Yqp]at sp2
   have fin:=jC.fresh (h':=H4.set (m+1) (.cells (tx (row.set t (q0+q))) 24 true)) (N':=n4) (l:=row.set t (q0+q)) (M:=m+1) hL p1 (t:=t) (by rw[II,IS];exact ax) (by rw[T.ag,ak (by omega),sQ,qJ];exact gR4) (by rw[T.ag,ay rfl]) (by omega) (fun i hi aW=>by rw[T.ag,ak (by omega),k4.get i (by omega),gO i hi aW]) (by omega)
   rw[<-e9]at fin
   have c4:(V.str (aR (q0+q))).cells=[V.str (aR (q0+q))]:=rfl
   have c5:V.one (V.str (aR (q0+q)))=true:=rfl
   simp(disch:=first|(simp;done)|omega|rfl) [-getElem?_pos, -V.cells, -V.one,hr,hf,h9,c4,c5,gM4,bD,U5,sp2,hle,ax,d5,d6,d7]
   have z1:¬R<n2:=by omega
   have z2:¬m+1<n2:=by omega
   have z3:¬m<n2:=by omega
   refine⟨i,by omega,by simp[av,hW,z1,z2,z3],⟨by omega,fun i hi=>?_⟩,t+1,by omega,by simp,fin⟩
   rw[T.ag,ak (by omega),k4.get i (by omega),gO i (by omega) (by omega)]
   exact hK.get i hi
 ·rintro _ r ⟨H,m,W⟩ hr ⟨rfl,hW,hK,hL⟩
  simp only at hW hK hL
  rw[<-eG]at hL
  have hM:=hL.UX
  rw[B3]at hM
  have iq:=Yrs (k:=n) FO B3 (Ysd qD qw hq hs) (by decide)
  have mH:∀i,i<=6->uR ((n+n)*1908+1) i<=183232:=fun i hi=>UW hn hn hi
  simp(disch:=first|(simp;done)|omega|rfl) [-getElem?_pos,hr]
  refine aB (Ymt (n:=n) (B:=uR ((n+n)*1908+1)) hM FO B3 pS (by omega) (fun _=>Yfb) iq (fun i hi=>by have:=mH i (by omega);omega)) ?_
  rintro x7 H7 n7 k7 Ky
  have kE:=(k1.trans k2).trans (hK.trans k7)
  have U7:=(sW.ya.ae hK).ae k7
  have eS:sU (uj D w n q) (iW D w n) n D.length=(x9 (uj D w n q) n).map fun H=>dH H (eE (iW D w n) D.length):=Yqv FO B3 pS (by rw[<-hw];exact IJ) xZ
  obtain⟨J,z,bo,rfl,hz,eQ,f1,f2,f3⟩:∃(J:List (List Rat)) (z:V) (bo:Bool),x7=.aV [z,.bool bo]/\gj H7 n7 z J/\DG D w n q=dH J (eE (iW D w n) D.length)/\cW J 183232/\J.length<=6/\b_ J n:=by
   rcases Ky with⟨a1,rfl⟩|⟨J,z,a1,rfl,a2⟩
   ·exact⟨[],_,_,rfl,⟨[],.inl ⟨rfl,.inl rfl⟩,rfl,fun j l hl=>by simp at hl⟩,by unfold DG;rw[eS,a1];rfl,by simp[cW],by simp,by simp[b_]⟩
   ·obtain⟨g1,g2,g3⟩:=Yrr (Z:=183232) FO B3 iq (mH n hn) a1
    exact⟨J,z,_,rfl,a2,by unfold DG;rw[eS,a1];rfl,g1,by omega,g3⟩
  simp(disch:=first|(simp;done)|omega|rfl) [-getElem?_pos,ct.cv,hr]
  refine aB (Ycd (c:=D.length) (j:=200) (k:=183232) hz U7 (fun r hr=>by rw[xZ,f3 r hr];exact aQ _) (by rw[<-hw];exact IJ) (by rw[xZ];exact pS) (by omega) (by rw[xZ];omega) (by omega) f1 (PF qD qw) (by decide) (by decide) (by rw[xZ];omega)) ?_
  rintro x8 H8 n8 k8 U8
  simp(disch:=first|(simp;done)|omega|rfl) [-getElem?_pos,aA]
  rw[eQ]
  exact⟨PG hW (by omega),kE.trans k8,U8⟩
set_option maxHeartbeats 4000000
def A.w8:=A.q Tryz.f8
def A.zB:=A.ql A.w8 0 []
def A.b8:=(fun x0=>A.qb A.w8 [x0]) A.zB
def A.k8:=@A.kk 8 63 [.tmp 6,.tmp 7] A.b8 (by kernel_rfl) rfl
def Yp8{h:T O}{N:Nat}{u v:V}{m:List (List aM)}{l:List aM}{s:aM}(hm:iJ h N u m)(hl:Sl h N v (strs l))(hP:l_ h N)(sm:pR 6 6 m=true)(sl:fW 6 l=true)(ss:s.length<=24):Fn A.C 8 [u,v,.str s] h N (fun x h' n'=>∃z c,x=.aV [z,.int .i64 c]/\DK (FU m l s) (DJ m l s) z c h' n'):=by
 intro W
 obtain⟨m1,m2⟩:=U9 sm
 obtain⟨l1,l2⟩:=PH sl
 have o2:=hl.form.one
 have o3:=hl.form.cells
 obtain⟨o4,o5⟩:=hm.one
 rw[aN,A.k8 (by simp)]
 unfold V.one at o2 o4
 unfold V.cells at o3 o5
 simp(disch:=first|(simp;done)|omega|rfl) [-getElem?_pos,A.b8,o2,o3,o4,o5,ad]
 generalize hH:(((h.set N (.cells [u] 22 true)).set (N+1) (.cells [v] 23 true)).set (N+1+1) (.cells [.str s] 24 true)).set (N+1+1+1) (.cells [.func 36 [] [.ptr N 0,.ptr (N+1) 0],.func 38 [] [.ptr (N+1+1) 0]] 67 true)=H
 have kB:ab h N H (N+1+1+1+1):=by rw[<-hH];exact(((ab.refl.new _).new _).new _).new _
 have g0:H.get N=some (.cells [u] 22 true):=by rw[<-hH];simp
 have g1:H.get (N+1)=some (.cells [v] 23 true):=by rw[<-hH];simp
 have g2:H.get (N+1+1)=some (.cells [.str s] 24 true):=by rw[<-hH];simp
 have g3:H.get (N+1+1+1)=some (.cells [.func 36 [] [.ptr N 0,.ptr (N+1) 0],.func 38 [] [.ptr (N+1+1) 0]] 67 true):=by rw[<-hH];simp
 clear hH
 have hs:Sl H (N+1+1+1+1) (.slice (N+1+1+1) 0 2 (some 2) 1) [.func 36 [] [.ptr N 0,.ptr (N+1) 0],.func 38 [] [.ptr (N+1+1) 0]]:=Sl.row (by omega) g3 rfl (fun k hk=>by simp at hk;omega)
 have key:=Zyf (l:=[B6 m l,kL 1 s]) hs rfl (by simp) (Yct (P:=fun f e _=>∀h' n',ab H (N+1+1+1+1) h' n'->jg A.C f [] h' n' (fun u _ _=>u=.int .i64 e)) (fun h' n' hk=>Yo0 ((hk.get N (by omega)).trans g0) (by have:=hk.le;omega) ((hk.get (N+1) (by omega)).trans g1) (by have:=hk.le;omega) ((hm.ae kB).ae hk) m1 m2 ((hl.ae kB).ae hk) l1 l2) (fun hz h' n' hk=>Yoz ((hk.get (N+1+1) (by omega)).trans g2) (by have:=hk.le;omega) (by omega)))
 change Fn A.C 35 _ H _ (fun u _ _=>u=.int .i64 (FU m l s))at key
 refine aB key ?_
 rintro _ H2 n2 k2 rfl
 have kK:=k2.le
 by_cases hE:FU m l s=0
 ·obtain⟨hM,zl,hL⟩:=Ykp (A8 hE (B6 m l) (by simp)) sm sl
  have xU:=Yfj (A8 hE (kL 1 s) (by simp))
  have qs:=Va xU ss
  have c0:=(k2.get N (by omega)).trans g0
  have kC:=kB.trans k2
  have d1:N<n2:=by omega
  have n6:=hM.n6
  have n1:=hM.n1
  have mle:=hM.le
  have m0:=hM.pos
  have Kz:b_ (eP m) (dR m):=hM.qb.1
  have qM:cW (eP m) 100:=fun r hr=>(hM.rat r hr).2
  have lM:(eP m).length=m.length:=Zww
  have lL:(l9 l).length=(eP m).length:=by simp[l9,eP,zl]
  simp(disch:=first|(simp;done)|omega|rfl) [-getElem?_pos,hE,aE,c0,d1]
  refine aB (Yhb (k0:=100) ((hm.ae kC).rat fun r hr=>(hM.row r hr).2) (by omega) (fun r hr=>by obtain⟨a1,a2⟩:=hM.rat r hr;exact⟨by omega,a2⟩) (by decide)) ?_
  rintro x3 H3 n3 k3 hx3
  have yM:=k3.le
  have c1:=(k3.get (N+1) (by omega)).trans ((k2.get (N+1) (by omega)).trans g1)
  have d2:N+1<n3:=by omega
  simp(disch:=first|(simp;done)|omega|rfl) [-getElem?_pos,c1,d2]
  refine aB (Zp8 (l:=l9 l) (k0:=100) (wV.sl ((hl.ae kC).ae k3) hL) (by omega) hL.qb (by decide)) ?_
  rintro x4 H4 n4 k4 Vb
  simp(disch:=first|(simp;done)|omega|rfl) [-getElem?_pos,]
  refine aB (Zue (c:=dR m) (j0:=100) (k0:=100) (hx3.ae k4) Vb (by omega) (by omega) Kz n1 (by omega) lL qM hL.qb (by decide) (by decide) (by decide)) ?_
  rintro x5 H5 n5 k5 hx5
  have rR:b_ (iW (eP m) (l9 l) (dR m)) (eP m).length:=by rw[<-lL];exact IJ
  simp(disch:=first|(simp;done)|omega|rfl) [-getElem?_pos,]
  refine aB (Yhi (n:=(eP m).length) (c:=dR m) (j:=100) (k:=200) hx5 ((hx3.ae k4).ae k5) rR Kz (aQ _) (by omega) (by show (iW _ _ _).length<_;rw[xZ];omega) (by omega) (by omega) (PF qM hL.qb) qM (by decide) (by decide) (by omega)) ?_
  rintro x6 H6 n6' k6 ⟨b,hb,KC⟩
  have FW:=k4.le
  have le5:=k5.le
  have le6:=k6.le
  have IS:(dH (iW (eP m) (l9 l) (dR m)) (eE (eP m) (dR m))).length=dR m:=by rw[PA,xZ]
  have UZ:b_ (dH (iW (eP m) (l9 l) (dR m)) (eE (eP m) (dR m))) (dR m):=by
   have:=@UN (iW (eP m) (l9 l) (dR m)) (eE (eP m) (dR m))
   rwa [FN]at this
  have U0:=UO (n:=dR m) qM hL.qb (by decide) (by decide)
  have FV:=@UU (dR m) (eP m).length n6 (by omega)
  change A9 b H6 n6' x6 (dH (iW (eP m) (l9 l) (dR m)) (eE (eP m) (dR m)))at KC
  generalize hG0:dH (iW (eP m) (l9 l) (dR m)) (eE (eP m) (dR m))=G0 at*
  have eG:uj (eP m) (l9 l) (dR m) (fw s)=nV G0 (fw s) (dR m):=by rw[<-hG0];rfl
  have c2:H5.get (N+1+1)=some (.cells [.str s] 24 true):=(k5.get (N+1+1) (by omega)).trans ((k4.get (N+1+1) (by omega)).trans ((k3.get (N+1+1) (by omega)).trans ((k2.get (N+1+1) (by omega)).trans g2)))
  have lx6:=KC.DL.len
  rw[IS]at lx6
  simp(disch:=first|(simp;done)|omega|rfl) [-getElem?_pos,lx6]
  refine bG [(12,12),(33,52)] (fun e r st=>e=.exit 0/\av n5 st.w=[]/\ab H5 n5 st.h st.n/\A9 b st.h st.n x6 (nV G0 (fw s) (dR m))) (fun i r st=>av n5 st.w=[]/\ab H5 n5 st.h st.n/\∃t:Nat,t+i=dR m/\r.get 33=some (.int .i64 t)/\A9 b st.h st.n x6 (nV G0 (fw s) t)) (dR m) ?_ ?_ ?_
  ·exact⟨by simp[ui],k6,0,by omega,by simp,KC⟩
  ·rintro i r ⟨H,n,W⟩ hr hf ⟨hW,hK,t,ht,Vc,FX⟩
   simp only at hW hK FX
   rw[bk]
   have leK:=hK.le
   cases i with
   |zero=>
    obtain rfl:t=dR m:=by omega
    simp(disch:=first|(simp;done)|omega|rfl) [-getElem?_pos,A.zB,hr,hf,Vc,hW,hK]
    exact FX
   |succ i=>
    have ax:t<dR m:=by omega
    have a_:(t:Int)<(dR m:Int):=by omega
    obtain⟨row,al⟩:=bh (l:=G0) (k:=t) (by omega)
    have iX:(nV G0 (fw s) t)[t]?=some row:=by rw[UL (aQ _)];exact al
    have qJ:row.length=dR m:=UZ row (bU al)
    obtain⟨q,hq⟩:=bh (l:=row) (k:=t) (by omega)
    have gF:=U0 row (bU al) q (bU hq)
    obtain⟨R,us,bb,c,rfl,p1,p2,p3,p4,p5,p6,p7,p8,p9,FY⟩:=FX.row iX (by omega)
    obtain⟨ca,y1,y2⟩:=p9 t q hq
    rw[II,IS]at*
    rw[qJ]at p4 p8
    have gs:=(hK.get (N+1+1) (by omega)).trans c2
    have d3:N+1+1<n:=by omega
    simp(disch:=first|(simp;done)|omega|rfl) [-getElem?_pos,A.zB,hr,hf,Vc,ax,a_,p1,p2,p3,p4,p6,p7,p8,y1,gs,d3]
    refine aB (Yq9 xU ss) ?_
    rintro xa H7 n7 k7 ha
    simp(disch:=first|(simp;done)|omega|rfl) [-getElem?_pos,]
    have w1:=gF.B7
    have w2:=qs.B7
    refine aB (Vd (y2.ae k7).fc ha (by omega) (by omega) (by omega) (by omega)) ?_
    rintro _ H8 n8 k8 hz
    obtain⟨z,rfl,yN⟩:=hz.c
    obtain⟨z1,z2⟩:=yN.len
    have g8:=((k7.trans k8).get bb p6).trans p7
    have lb8:bb<n8:=by have:=k7.le;have:=k8.le;omega
    have mI:(V.agg z).cells=z:=rfl
    have hle:t*4+4<=dR m*4:=by omega
    have pp:=FY H8 n8 z (q+fw s) t (k7.trans k8) yN (by omega)
    simp(disch:=first|(simp;done)|omega|rfl) [-getElem?_pos, -V.cells, -V.one,hr,hf,Vc,mI,z1,z2,g8,bD,p8,hle,lb8]
    have e9:nV G0 (fw s) (t+1)=(nV G0 (fw s) t).set t (row.set t (q+fw s)):=by
     rw[nV,al,pd,FL,hq,pd]
    refine⟨i,by omega,?_,?_,t+1,by omega,by simp,?_⟩
    ·have:¬bb<n5:=by omega
     simp[av,hW,this]
    ·exact((hK.trans k7).trans k8).set (by omega)
    ·rw[e9];exact pp
  ·rintro _ r ⟨H,n,W⟩ hr ⟨rfl,hW,hK,FX⟩
   simp only at hW hK FX
   have kD:=((kC.trans k3).trans k4).trans k5
   rw[<-eG]at FX
   have hbq:=Ysc (n:=dR m) (q:=fw s) qM hL.qb qs (by omega) lL
   simp(disch:=first|(simp;done)|omega|rfl) [-getElem?_pos,hr]
   refine aB (Ybz (n:=dR m) (c:=(eP m).length) (B:=uR ((dR m+(eP m).length)*1908+1)) FX.DL (hx5.ae hK) FO rR B3 xZ n1 (by omega) (by omega) (by omega) (fun _=>Yfb) hbq (fun i hi=>by have:=@UW (dR m) (eP m).length i n6 (by omega) (by omega);omega)) ?_
   rintro x7 H7 n7 k7 Ky
   have kE:=(kD.trans hK).trans k7
   have fH:=PG hW (show N<=n5 by omega)
   obtain⟨Hs,z,bo,rfl,hz,eQ,f1,f2,f3⟩:∃(Hs:List (List Rat)) (z:V) (bo:Bool),x7=.aV [z,.bool bo]/\gh H7 n7 z Hs/\DJ m l s=Hs/\cW Hs 183232/\Hs.length<=6/\(∀r∈Hs,r.length<=6):=by
    rcases Ky with⟨a1,rfl⟩|⟨Hs,z,a1,rfl,a2⟩
    ·exact⟨[],_,_,rfl,gh.none,by unfold DJ DG;rw[show sU (uj (eP m) (l9 l) (dR m) (fw s)) (iW (eP m) (l9 l) (dR m)) (dR m) (eP m).length=none from a1];rfl,by simp[cW],by simp,by simp⟩
    ·obtain⟨f1,f2,f3⟩:=Ztr qM hL.qb qs n6 (by omega) lL a1
     exact⟨Hs,z,_,rfl,a2,by unfold DJ DG;rw[show sU (uj (eP m) (l9 l) (dR m) (fw s)) (iW (eP m) (l9 l) (dR m)) (dR m) (eP m).length=some Hs from a1];rfl,f1,by omega,fun r hr=>by rw[f3 r hr];omega⟩
   simp(disch:=first|(simp;done)|omega|rfl) [-getElem?_pos,ct.cv]
   refine aB (Yhh (k:=183232) hz (hP.ae kE) (by omega) (fun r hr=>by have:=f3 r hr;omega) f1 (by decide)) ?_
   rintro x8 H8 n8 k8 U8
   have kF:=kE.trans k8
   rcases U8 with⟨t1,rfl⟩|⟨t1,v2,rfl,t2⟩
   ·simp(disch:=first|(simp;done)|omega|rfl) [-getElem?_pos,aA,fH]
    exact⟨kF,.aa,4,⟨rfl,rfl⟩,by rw[eQ];exact .inr ⟨rfl,.inl ⟨t1,rfl,rfl⟩⟩⟩
   ·simp(disch:=first|(simp;done)|omega|rfl) [-getElem?_pos,aA,fH]
    exact⟨kF,v2,0,⟨rfl,rfl⟩,by rw[eQ];exact .inr ⟨rfl,.inr ⟨t1,rfl,t2⟩⟩⟩
 ·simp(disch:=first|(simp;done)|omega|rfl) [-getElem?_pos,hE,aE,aA]
  exact⟨kB.trans k2,.aa,_,⟨rfl,rfl⟩,.inl ⟨hE,rfl,rfl⟩⟩
end
end Go.Mx
