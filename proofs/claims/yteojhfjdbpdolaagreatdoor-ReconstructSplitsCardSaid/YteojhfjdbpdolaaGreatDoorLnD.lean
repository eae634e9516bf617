/-A list is the sum of its part within the-/
import Derived.Test.YteojhfjdbpdolaaGreatDoorLnC
set_option linter.all false
namespace Go.Mx
noncomputable section
open Go Go.Proofs
variable {m:List (List Rat)} {n:Nat} {v x:List Rat}
set_option maxRecDepth 1000000
def Yl5{f g:Nat->Rat}:sN (fun i=>f i-g i) n=sN f n-sN g n:=by
 have:sN (fun i=>f i-g i) n=sN (fun i=>f i+ -1*g i) n:=dV fun i _=>by grind
 rw[this,zO,l_]
 grind
def P2{a b:Nat->Rat}{M:List (List Rat)}{y:Nat->Rat}{c:Nat}(h:∀t,t<n->sN (fun l=>az M t l*a l) c=b t):sN (fun l=>a l*sN (fun t=>az M t l*y t) n) c=sN (fun t=>b t*y t) n:=by
 rw[dV (g:=fun l=>sN (fun t=>y t*(az M t l*a l)) n) fun l _=>by rw[<-l_];exact dV fun t _=>by grind,FN]
 apply dV
 intro t ht
 rw[l_,h t ht]
 grind
def Yie{D:List (List Rat)}{x h y:Nat->Rat}{c:Nat}(hD:bg D c)(hh:∀b,b<(aU D c).length->sN (fun a=>az (eW (aU D c) (aU D c)) b a*h a) (aU D c).length=sN (fun l=>az (aU D c) b l*x l) c)(hy:∀b,b<(bp D c).length->sN (fun a=>az (eW (bp D c) (bp D c)) b a*y a) (bp D c).length=sN (fun l=>az (bp D c) b l*x l) c):∀j,j<c->x j=sN (fun a=>az (aU D c) a j*h a) (aU D c).length+sN (fun a=>az (bp D c) a j*y a) (bp D c).length:=by
 have rB:=uV (n:=c) hD
 have rN:bg (bp D c) c:=Yp0
 have hp:∀a b,a<(bp D c).length->b<(aU D c).length->sN (fun l=>az (aU D c) b l*az (bp D c) a l) c=0:=fun a b ha hb=>(KQ hD).2 (Yj4 hD ha) b hb
 have key:=Ysr (e:=fun j=>x j-(sN (fun a=>az (aU D c) a j*h a) (aU D c).length+sN (fun a=>az (bp D c) a j*y a) (bp D c).length)) hD ?_ ?_
 ·intro j hj
  have:=key j hj
  grind
 ·intro b hb
  have e1:=P2 (a:=fun l=>az (aU D c) b l) (M:=aU D c) (y:=h) (c:=c) (n:=(aU D c).length) (b:=fun t=>az (eW (aU D c) (aU D c)) b t) fun t ht=>by rw[P3 hb ht rB]
  have e2:=P2 (a:=fun l=>az (aU D c) b l) (M:=bp D c) (y:=y) (c:=c) (n:=(bp D c).length) (b:=fun _=>0) fun t ht=>by
   rw[<-hp t b ht hb]
   exact dV fun l _=>by rw[Rat.mul_comm]
  rw[Be (f:=fun t=>0*y t) fun t _=>Rat.zero_mul _]at e2
  rw[dV (g:=fun l=>az (aU D c) b l*x l-(az (aU D c) b l*sN (fun t=>az (aU D c) t l*h t) (aU D c).length+az (aU D c) b l*sN (fun t=>az (bp D c) t l*y t) (bp D c).length)) fun l _=>by grind,Yl5,zO,e1,e2,hh b hb]
  grind
 ·intro b hb
  have e1:=P2 (a:=fun l=>az (bp D c) b l) (M:=bp D c) (y:=y) (c:=c) (n:=(bp D c).length) (b:=fun t=>az (eW (bp D c) (bp D c)) b t) fun t ht=>by rw[P3 hb ht rN]
  have e2:=P2 (a:=fun l=>az (bp D c) b l) (M:=aU D c) (y:=h) (c:=c) (n:=(aU D c).length) (b:=fun _=>0) fun t ht=>hp b t hb ht
  rw[Be (f:=fun t=>0*h t) fun t _=>Rat.zero_mul _]at e2
  rw[dV (g:=fun l=>az (bp D c) b l*x l-(az (bp D c) b l*sN (fun t=>az (aU D c) t l*h t) (aU D c).length+az (bp D c) b l*sN (fun t=>az (bp D c) t l*y t) (bp D c).length)) fun l _=>by grind,Yl5,zO,e1,e2,hy b hb]
  grind
def qU(v:List Rat):List (List Rat):=eI [v] v.length
def IT:bg (qU v) 1:=@IU [v] v.length
def DU:(qU v).length=v.length:=pS
def Ymh{a:Nat}(h:a<v.length):az (qU v) a 0=v[a]?.getD 0:=by
 unfold qU
 rw[KT h (by simp)]
 rfl
def VM{a b:List Rat}(h:a.length=n):de a b=sN (fun l=>a[l]?.getD 0*b[l]?.getD 0) n:=by
 unfold de
 rw[h,VN]
def VO{c b:Nat}(h:bg m c)(hb:b<m.length):(m.map fun r=>de r x)[b]?.getD 0=sN (fun l=>az m b l*x[l]?.getD 0) c:=by
 have hl:=h.at hb
 rw[eY,cy hb]
 simp only[pL,fX]
 rw[cy hb]at hl
 simp only[fX]at hl
 rw[VM hl]
 apply dV
 intro l _
 unfold az
 rw[cy hb]
 rfl
def wX(D:List (List Rat))(x:List Rat)(c:Nat):List Rat:=if (aU D c).length=0 then (List.range c).map fun _=>0 else (eI (aU D c) c).map fun r=>de r (kf ((pQ (eW (aU D c) (aU D c)) (qU ((aU D c).map fun r=>de r x)) (aU D c).length 1).getD []) 0)
def oX(D:List (List Rat))(x:List Rat)(c:Nat):List Rat:=if (bp D c).length=0 then (List.range c).map fun _=>0 else (eI (bp D c) c).map fun r=>de r (((pr (eW (bp D c) (bp D c)) (bp D c).length).getD []).map fun r=>de r ((bp D c).map fun r=>de r x))
def Ykf{c:Nat}(hc:bg m c):∃J,pr (eW (aU m c) (aU m c)) (aU m c).length=some J:=
 Yj7 (@wY (aU m c) (aU m c)) qV fun v hv j hj=>by
  rw[wN hc]at hv hj
  exact Ytm hc hv j hj
def P4{c:Nat}(hc:bg m c)(h0:0<(aU m c).length)(hv:v.length=(aU m c).length):∃J,pr (eW (aU m c) (aU m c)) (aU m c).length=some J/\pQ (eW (aU m c) (aU m c)) (qU v) (aU m c).length 1=some (eW J (eI (qU v) 1)):=by
 obtain⟨J,hJ⟩:=Ykf hc
 refine⟨J,hJ,?_⟩
 rw[Ysf (@wY (aU m c) (aU m c)) qV h0 IT (by rw[DU,hv]),hJ]
 rfl
def VP{c:Nat}{H:List (List Rat)}(hc:bg m c)(h0:0<(aU m c).length)(hs:pQ (eW (aU m c) (aU m c)) (qU ((aU m c).map fun r=>de r x)) (aU m c).length 1=some H):H.length=(aU m c).length/\bg H 1/\∀b,b<(aU m c).length->sN (fun a=>az (eW (aU m c) (aU m c)) b a*az H a 0) (aU m c).length=sN (fun l=>az (aU m c) b l*x[l]?.getD 0) c:=by
 obtain⟨q1,q2,q3⟩:=Ynz (@wY (aU m c) (aU m c)) qV IT (by rw[DU,dL]) h0 hs
 refine⟨q1,q2,fun b hb=>?_⟩
 rw[q3 b 0 hb (by decide),Ymh (by rw[dL];exact hb),VO (uV hc) hb]
def Zxk{c j:Nat}{y:List Rat}(hj:j<c):((eI m c).map fun r=>de r y)[j]?.getD 0=sN (fun a=>az m a j*y[a]?.getD 0) m.length:=by
 rw[VO IU (by rw[pS];exact hj)]
 exact dV fun a ha=>by rw[KT hj ha]
def Yt7{a k:Nat}:(kf m k)[a]?.getD 0=az m a k:=by
 unfold kf az
 rw[eY]
 cases m[a]?<;>rfl
def Zxf{c j:Nat}:((List.range c).map fun _=>(0:Rat))[j]?.getD 0=0:=by
 rw[eY]
 cases (List.range c)[j]?<;>rfl
def Zxn{D:List (List Rat)}{c:Nat}(hD:bg D c):∀j,j<c->x[j]?.getD 0=(wX D x c)[j]?.getD 0+(oX D x c)[j]?.getD 0:=by
 intro j hj
 have hk:bg (l9 D c) c:=DR
 obtain⟨h,hh,eh⟩:∃h:Nat->Rat,(∀b,b<(aU D c).length->sN (fun a=>az (eW (aU D c) (aU D c)) b a*h a) (aU D c).length=sN (fun l=>az (aU D c) b l*x[l]?.getD 0) c)/\(wX D x c)[j]?.getD 0=sN (fun a=>az (aU D c) a j*h a) (aU D c).length:=by
  unfold wX
  by_cases h0:(aU D c).length=0
  ·rw[av h0,Zxf,h0]
   exact⟨fun _=>0,fun b hb=>absurd hb (Nat.not_lt_zero b),rfl⟩
  ·rw[ak h0]
   obtain⟨J,_,hs⟩:=P4 (v:=(aU D c).map fun r=>de r x) hD (by omega) (by rw[dL])
   obtain⟨q1,q2,q3⟩:=VP hD (by omega) hs
   rw[hs,fX]
   exact⟨_,q3,by rw[Zxk hj];exact dV fun a _=>by rw[Yt7]⟩
 obtain⟨y,hy,ey⟩:∃y:Nat->Rat,(∀b,b<(bp D c).length->sN (fun a=>az (eW (bp D c) (bp D c)) b a*y a) (bp D c).length=sN (fun l=>az (bp D c) b l*x[l]?.getD 0) c)/\(oX D x c)[j]?.getD 0=sN (fun a=>az (bp D c) a j*y a) (bp D c).length:=by
  unfold oX
  by_cases h0:(bp D c).length=0
  ·rw[av h0,Zxf,h0]
   exact⟨fun _=>0,fun b hb=>absurd hb (Nat.not_lt_zero b),rfl⟩
  ·rw[ak h0]
   obtain⟨J,hJ,hs⟩:=P4 (v:=(bp D c).map fun r=>de r x) hk (Nat.pos_of_ne_zero h0) (by rw[dL];rfl)
   have jq:pQ (eW (bp D c) (bp D c)) (qU ((bp D c).map fun r=>de r x)) (bp D c).length 1=some (eW J (eI (qU ((bp D c).map fun r=>de r x)) 1)):=hs
   obtain⟨q1,q2,q3⟩:=VP hk (Nat.pos_of_ne_zero h0) jq
   have hJ':pr (eW (bp D c) (bp D c)) (bp D c).length=some J:=hJ
   rw[hJ',fX]
   refine⟨_,q3,?_⟩
   rw[Zxk hj]
   apply dV
   intro a ha
   congr 1
   have lJ:J.length=(bp D c).length:=by rw[qV]at q1;exact q1
   rw[P3 (by rw[lJ];exact ha) (by rw[pS];decide) IU,DU,dL]
   have rJ:bg J (bp D c).length:=by
    have:=hJ'
    unfold pr at this
    split at this
    ·obtain rfl:=oV this
     intro r hr
     obtain⟨z,hz,rfl⟩:=dt.1 hr
     rw[uQ,uV (uY (@wY (bp D c) (bp D c)) (IN (n:=(bp D c).length)) (by rw[IP,qV];exact aM _)) z hz]
     omega
    ·cases this
   rw[VO rJ (by rw[lJ];exact ha)]
   apply dV
   intro l hl
   rw[KT (by decide) (by rw[DU,dL];exact hl),Ymh (by rw[dL];exact hl),Rat.mul_comm]
 rw[eh,ey]
 exact Yie (x:=fun l=>x[l]?.getD 0) hD hh hy j hj
set_option maxHeartbeats 1000000
variable {N:Nat} {h:T O} {v:V}
def A.w6:=A.q Tryz.f6
def A.wZ:=A.ql A.w6 1 []
def A.zP:=(fun x0=>A.ql A.w6 0 [x0]) A.wZ
def A.b6:=(fun x0=>A.qb A.w6 [x0]) A.zP
def A.k6:=@A.kk 6 32 [.tmp 4] A.b6 (by kernel_rfl) rfl
def IV(n:Nat)(x:List aQ):Bool:=x.all fun s=>decide (s.length<=n)
def Ce(n:Nat)(l:List (List aQ)):Bool:=l.all (IV n)
def Yle{n:Nat}{w:List Nat}{l:List (List aQ)}(hs:iV h N v l)(hl:l.length<100000)(hx:∀x∈l,x.length<100000):A.C.call (.func 6 [] []) [v,.int .i64 n] ⟨h,N,w⟩=some (.bool (Ce n l),⟨h,N,w⟩):=by
 apply Call.eq
 have lg:=hs.len
 rw[aR,A.k6 (by simp)]
 simp[A.b6]
 refine bL [(4,31)] (fun e r st=>st=⟨h,N,[]⟩/\((e=.exit 0/\Ce n l=true)\/(e=.ret/\Ce n l=false/\r.get 4=some (.bool false)))) (fun m r st=>st=⟨h,N,[]⟩/\∃k,k+m=l.length/\r.get 5=some (.int .i64 k)/\Ce n l=(l.drop k).all (IV n)) l.length ?_ ?_ ?_
 ·exact⟨rfl,0,by omega,by simp,rfl⟩
 ·rintro m r _ hr hf ⟨rfl,k,hk,h5,hz⟩
  rw[bl]
  cases m with
  |zero=>
   obtain rfl:k=l.length:=by omega
   rw[qW,List.all_nil]at hz
   simp[A.zP,hr,hf,h5,lg,hz]
  |succ m=>
   have ay:k<l.length:=by omega
   have bM:(k:Int)<(l.length:Int):=by omega
   obtain⟨x,KU⟩:=bk ay
   have yS:=hx x (cG KU)
   obtain⟨i,o,cc,e,rw,u,q1,q2,q3,q4,q5⟩:=hs.at KU
   have lu:=q5.len
   rw[w_]at lu
   rw[my KU,List.all_cons]at hz
   simp[A.zP,hr,h5,lg,bM]
   refine bL [(4,4),(6,6),(13,31)] (fun e r' st=>st=⟨h,N,[]⟩/\((e=.exit 2/\IV n x=true)\/(e=.ret/\IV n x=false/\r'.get 4=some (.bool false)))) (fun m' r' st=>st=⟨h,N,[]⟩/\∃t,t+m'=x.length/\r'.get 6=some (.int .i64 t)/\IV n x=(x.drop t).all fun s=>decide (s.length<=n)) x.length ?_ ?_ ?_
   ·exact⟨rfl,0,by omega,by simp,rfl⟩
   ·rintro m' r' _ kb zN ⟨rfl,t,ht,h6,hy⟩
    rw[bl]
    cases m' with
    |zero=>
     obtain rfl:t=x.length:=by omega
     rw[qW,List.all_nil]at hy
     simp[A.wZ,kb,zN,hr,h5,h6,lg,bM,lu,q1,q3,q4,hy]
    |succ m'=>
     have dj:t<x.length:=by omega
     have IW:(t:Int)<(x.length:Int):=by omega
     obtain⟨s,dM⟩:=bk dj
     obtain⟨i2,o2,c2,e2,UI,p1,p2,p3,p4⟩:=q5.at (FV dM)
     rw[my dM,List.all_cons]at hy
     have e1:((n:Int)<(s.length:Int))=(n<s.length):=by apply propext;omega
     by_cases c:n<s.length
     ·have c':decide (s.length<=n)=false:=by simpa using c
      rw[c',Cf]at hy
      simp[A.wZ,kb,zN,hr,h5,h6,lg,bM,lu,IW,q1,q3,q4,p1,p3,p4,e1,c,hy]
     ·have c':decide (s.length<=n)=true:=by simpa using c
      rw[c',Bool.true_and]at hy
      simp(disch:=first|(simp;done)|omega|rfl) [A.wZ,kb,zN,hr,h5,h6,lg,lu,IW,q1,q3,q4,p1,p3,p4,e1,c]
      exact⟨m',by omega,t+1,by omega,by simp,hy⟩
   ·rintro _ r' _ kb ⟨rfl,⟨rfl,hy⟩|⟨rfl,hy,h4⟩⟩
    ·rw[hy,Bool.true_and]at hz
     have B6:=hf.inner (D':=[(4,4),(6,6),(13,31)]) (by decide) (fun hx=>by simpa[Fx.set]using hx) kb
     simp(disch:=first|(simp;done)|omega|rfl) [kb,B6,h5]
     exact⟨m,by omega,k+1,by omega,by simp,hz⟩
    ·rw[hy,Cf]at hz
     have B6:=hf.inner (D':=[(4,4),(6,6),(13,31)]) (by decide) (fun hx=>by simpa[Fx.set]using hx) kb
     simp[B6,h4,hz]
 ·rintro _ r _ hr ⟨rfl,⟨rfl,hz⟩|⟨rfl,hz,h4⟩⟩
  ·simp[hz]
  ·simp[h4,hz]
def FW(B:Nat)(h:T O)(N:Nat)(v:V)(l:List V):Prop:=(∃i,v=.slice i 0 l.length (some l.length) 1/\B<=i/\i<N/\h.get i=some (.cells l 23 true))\/Own 1 23 B h N v (l.map fun y=>[y])
def FW.sl{B:Nat}{l:List V}(s:FW B h N v l):Sl h N v l:=by
 rcases s with⟨i,rfl,_,h2,h3⟩|s
 ·exact Sl.row h2 h3 rfl (fun k hk=>by simp at hk;omega)
 ·exact Sn.one.1 s.sn
def FW.app{B:Nat}{u:V}{l xs:List V}{w:List Nat}(s:FW B h N v l)(h0:0<l.length)(hu:Sl h N u xs)(hB:B<=N)(hb:l.length+xs.length<100000):∃v' h' n' w',fY ⟨h,N,w⟩ 1 24 23 v u=some (v',⟨h',n',w'⟩)/\ab h B h' n'/\ax B w'=ax B w/\N<=n'/\FW B h' n' v' (l++xs):=by
 have l7:=IH (w:=w) (Sn.one.2 hu)
 rw[dL,KJ]at l7
 by_cases hx:xs.length=0
 ·have jn:=List.length_eq_zero_iff.1 hx
  subst jn
  refine⟨v,h,N,w,?_,⟨hB,fun i _=>rfl⟩,rfl,aM _,by rw[wU];exact s⟩
  rcases s with⟨i,rfl,_⟩|⟨_,⟨hc,_⟩|⟨i,rfl,_⟩⟩
  ·simp[fY,l7]
  ·rw[List.map_eq_nil_iff]at hc
   rw[hc]at h0
   simp at h0
  ·simp[fY,l7]
 ·rcases s with⟨i,rfl,b1,b2,b3⟩|s
  ·have VQ:aF l 0 (l.length*1)=some l:=by unfold aF;simp
   refine⟨.slice N 0 (l.length+xs.length) none 1,h.set N (.cells (l++xs) 23 true),N+1,w,?_,⟨by omega,fun j hj=>by rw[T.ag,ak (by omega)]⟩,rfl,by omega,.inr ⟨fun y hy=>by obtain⟨z,_,rfl⟩:=dt.1 hy;rfl,.inr ⟨N,by simp,hB,by omega,by rw[T.ag,av rfl,KJ]⟩⟩⟩
   simp only[fY,l7,St.row,b3,tZ,St.alloc,VQ]
   rw[ak hx,ak (by rintro(h|h|h)<;>omega),ak (by omega)]
  ·have lx:(xs.map fun y=>[y]).length=xs.length:=dL _
   obtain⟨v',h',w',f1,f2,f3,_,_,f5⟩:=Vj (Y:=fun _=>True) (xs:=xs.map fun y=>[y]) (u:=u) (bytes:=24) (w:=w) s (fun hc=>by rw[List.map_eq_nil_iff]at hc;rw[hc]at h0;simp at h0) (fun _ _ _ _=>trivial) hB (by decide) (fun x hx=>by obtain⟨y,_,rfl⟩:=dt.1 hx;rfl) (by rw[lx];omega) (IH (Sn.one.2 hu)) (by rw[dL,lx];omega)
   exact⟨v',h',N+1,w',f1,f3,f2,by omega,.inr (by rw[List.map_append];exact f5)⟩
def xb(h:T O)(N:Nat)(us:List V)(m:List (List aQ)):Prop:=us.length=m.length/\∀(j:Nat) (l:List aQ),m[j]?=some l->∃u,us[j]?=some u/\Sl h N u (strs l)
def xb.app{us vs:List V}{a b:List (List aQ)}(s:xb h N us a)(t:xb h N vs b):xb h N (us++vs) (a++b):=by
 obtain⟨s1,s2⟩:=s
 obtain⟨t1,t2⟩:=t
 refine⟨by simp[s1,t1],fun j l hl=>?_⟩
 by_cases hj:j<a.length
 ·rw[iM hj]at hl
  obtain⟨u,g1,g2⟩:=s2 j l hl
  exact⟨u,by rw[iM (by omega)];exact g1,g2⟩
 ·rw[kY (by omega)]at hl
  obtain⟨u,g1,g2⟩:=t2 _ l hl
  exact⟨u,by rw[kY (by omega),s1];exact g1,g2⟩
def xb.ae{h':T O}{N':Nat}{us:List V}{m:List (List aQ)}(s:xb h N us m)(k:ab h N h' N'):xb h' N' us m:=⟨s.1,fun j l hl=>by
 obtain⟨u,a,b⟩:=s.2 j l hl
 exact⟨u,a,b.ae k⟩⟩
def xb.one{h:T O}{N:Nat}{u:V}{l:List aQ}(s:Sl h N u (strs l)):xb h N [u] [l]:=⟨rfl,fun j x hx=>by
 cases j with
 |zero=>
  obtain rfl:l=x:=by simpa using hx
  exact⟨u,rfl,s⟩
 |succ j=>simp at hx⟩
variable {N:Nat} {h:T O} {m:List (List aQ)} {v:V}
def iV.rows(s:iV h N v m):∃us,Sl h N v us/\xb h N us m:=by
 obtain⟨us,a,b,c⟩:=s
 exact⟨us,a,b,c⟩
def xb.mts{us:List V}(s:xb h N us m)(hs:Sl h N v us):iV h N v m:=⟨us,hs,s.1,s.2⟩
def Yw0{u:V}{l:List aQ}{w:List Nat}(hl:Sl h N v (strs l))(hm:iV h N u m)(hb:m.length<1000):∃x h' n' w',fY ⟨h.set N (.cells [v] 23 true),N+1,w⟩ 1 24 23 (.slice N 0 1 (some 1) 1) u=some (x,⟨h',n',w'⟩)/\ab h N h' n'/\ax N w'=ax N w/\∃us,us.length=m.length+1/\FW N h' n' x us/\xb h N us ([l]++m):=by
 obtain⟨us,s1,s2⟩:=hm.rows
 have kN:ab h N (h.set N (.cells [v] 23 true)) (N+1):=ab.refl.new _
 have lv:FW N (h.set N (.cells [v] 23 true)) (N+1) (.slice N 0 1 (some 1) 1) [v]:=.inl ⟨N,rfl,aM _,by omega,by rw[T.ag,av rfl]⟩
 obtain⟨x,h',n',w',f1,f2,f3,_,f5⟩:=lv.app (w:=w) (by simp) (s1.ae kN) (by omega) (by have:=s2.1;simp;omega)
 exact⟨x,h',n',w',f1,kN.then f2,f3,_,by simp[s2.1],f5,(xb.one hl).app s2⟩
def Yj0{k n:Nat}(h:mb k n=true)(hn:n<64):k<=66:=VS h hn
def Yc8{a c:Nat}{b:List (List aQ)}(h:pT a c b=true):mb b.length a=true/\∀r∈b,gF c r=true:=by
 unfold pT at h
 rw[iE]at h
 exact⟨h.1,fun r hr=>lB.1 h.2 r hr⟩
variable {D:List (List Rat)} {b k n:Nat} {l:List aQ} {m:List (List aQ)} {x:List Rat}
def A.b36:=A.q Tryz.f36
def A.k36:=@A.kk 36 4 [.tmp 1] A.b36 (by kernel_rfl) rfl
def A.b38:=A.q Tryz.f38
def A.k38:=@A.kk 38 9 [.tmp 2] A.b38 (by kernel_rfl) rfl
def Yny{h:T O}{N q:Nat}{u:V}{l:List aQ}{eq:TypeId}{wq:Bool}(VT:h.get q=some (.cells [u] eq wq))(hlq:q<N)(hs:iV h N u m)(mw:m.length<100000)(dq:∀x∈m,x.length<100000/\∀s∈x,s.length<=100000):mJ A.C (.func 36 [] [.ptr q 0]) [] h N (fun z _ _=>z=.int .i64 (lS m 64 16)):=by
 intro w
 rw[aR,A.k36 (by simp)]
 simp(disch:=first|(simp;done)|omega|rfl) [-getElem?_pos,A.b36,VT]
 refine aA (Yi4 hs mw dq) ?_
 rintro _ H2 n2 k2 rfl
 simp(disch:=first|(simp;done)|omega|rfl) [-getElem?_pos,aE]
 exact k2
def Ynx{h:T O}{N p q:Nat}{v u:V}{ep eq:TypeId}{wp wq:Bool}(pw:h.get p=some (.cells [v] ep wp))(hlp:p<N)(VT:h.get q=some (.cells [u] eq wq))(hlq:q<N)(hs:iV h N u m)(mw:m.length<100000)(dq:∀x∈m,x.length<100000/\∀s∈x,s.length<=100000)(ht:Sl h N v (strs l))(ue:l.length<100000)(hlx:∀s∈l,s.length<=100000)(m0:0<m.length):mJ A.C (.func 38 [] [.ptr p 0,.ptr q 0]) [] h N (fun z _ _=>z=.int .i64 (kK l (dS m))):=by
 intro w
 have ml:=hs.len
 have fU:0<(m.length:Int):=by omega
 obtain⟨l0,gb⟩:=bk m0
 obtain⟨i0,o0,VU,e0,DV,u0,z1,z2,z3,z4,z5⟩:=hs.at gb
 have z6:=z5.len
 rw[w_]at z6
 rw[kv]at z4
 obtain⟨n,hn⟩:∃n,n=l0.length:=⟨_,rfl⟩
 have en:dS m=n:=by simp[dS,gb,hn]
 rw[en]
 rw[<-hn]at z6
 rw[aR,A.k38 (by simp)]
 simp(disch:=first|(simp;done)|omega|rfl) [-getElem?_pos,A.b38,VT,pw,ml,m0,fU,z1,z2,z3,z4,z6]
 refine aA (Ztb ht ue hlx) ?_
 rintro _ H2 n2 k2 rfl
 have ve:=k2.le
 simp(disch:=first|(simp;done)|omega|rfl) [-getElem?_pos,]
 refine(IX (by simp[-ax,hlq,hlp,z2,Zzn,Ztt])).2 ?_
 simp(disch:=first|(simp;done)|omega|rfl) [-getElem?_pos,aE]
 exact k2
def Yt5{R d r e:Nat}(h1:R<=r)(h2:d<=e):mI R d<=(e+2)*(r+e+1):=by
 unfold mI
 exact uf (by omega) (by omega)
def IY{R d r e z:Nat}(h1:R<=r)(h2:d<=e)(h3:(e+2)*(r+e+1)<=z):mI R d<=z:=k_ (Yt5 h1 h2) h3
def Ytc{m:List (List Rat)}{Z:Nat}(h:cB (aU m n) Z)(hZ:1<=Z):cB (l9 m n) Z:=fun r hr q hq=>by
 have h2:(1:Nat)<2^Z:=Nat.one_lt_two_pow (by omega)
 unfold l9 at hr
 obtain⟨k,_,rfl⟩:=dt.1 hr
 unfold ye at hq
 obtain⟨j,_,rfl⟩:=dt.1 hq
 split
 ·exact⟨h2,h2⟩
 ·split
  ·unfold az
   exact Ymb (yi (fun q hq=>h.at q hq) hZ k)
  ·exact⟨by show 0<_;omega,h2⟩
def P5{m:List (List Rat)}{n:Nat}:(aU m n).length<=m.length:=by
 unfold aU
 rw[gD,yG]
 omega
def P6(hD:bg D n)(q:cB D 48)(hn:n<=5)(hs:D.length<=5):cB (aU D n) 1729:=by
 have h1:n*48+1<=241:=by omega
 have h2:(5+2)*(241+5+1)<=1729:=by omega
 exact(Yl9 hD q (aM _)).mono (IY h1 hs h2)
def Zxp(hD:bg D n):(l9 D n).length<=n:=by
 have:=Vv hD
 omega
def Ynw(hD:bg D n)(q:cB D 48)(hn:n<=5)(hs:D.length<=5):cB (bp D n) 60564:=by
 have h1:n*1729+1<=8646:=by omega
 have h2:(5+2)*(8646+5+1)<=60564:=by omega
 have h3:(l9 D n).length<=5:=by have:=Zxp hD;omega
 exact(Yl9 DR (Ytc (P6 hD q hn hs) (by decide)) (aM _)).mono (IY h1 h3 h2)
def Ysu{v:List Rat}(hv:∀q∈v,Qb b q)(hb:1<=b):cB (qU v) b:=fun r hr=>(FX (B:=[v]) (fun r hr=>by
 obtain rfl:r=v:=by simpa using hr
 exact hv) hb r hr).2
def VV{G:List (List Rat)}{v:List Rat}(hG:bg G k)(hl:G.length=v.length)(qG:cB G b)(qv:∀q∈v,Qb b q)(hb:1<=b)(i:Nat):cB (aD (cH G (qU v)) i).1 (mI ((k+1)*b+1) (aD (cH G (qU v)) i).2.1):=
 have hw:bg (cH G (qU v)) (k+1):=uY hG IT (by rw[DU,hl];exact aM _)
 P1 (PX (Ych qG (Ysu qv hb)) hw) hw (by omega) i
def Ymq{G:List (List Rat)}(hG:bg G k)(hl:G.length=k)(qG:cB G b)(hb:1<=b)(i:Nat):cB (aD (cH G (fJ k)) i).1 (mI ((k+k)*b+1) (aD (cH G (fJ k)) i).2.1):=
 have hw:bg (cH G (fJ k)) (k+k):=uY hG IN (by rw[IP,hl];exact aM _)
 P1 (PX (Ych qG (Yv5.mono hb)) hw) hw (by omega) i
def Ylz(hk:k<=5)(hb:b<=17296)(i:Nat)(hi:i<=5):mI ((k+1)*b+1) i<=726481:=by
 have:=uf (show k+1<=6 by omega) hb
 have h1:(k+1)*b+1<=103777:=by omega
 have h2:(5+2)*(103777+5+1)<=726481:=by omega
 exact IY h1 hi h2
def Yly(hk:k<=5)(i:Nat)(hi:i<=5):mI ((k+k)*605646+1) i<=42395269:=by
 have h1:(k+k)*605646+1<=6056461:=by omega
 have h2:(5+2)*(6056461+5+1)<=42395269:=by omega
 exact IY h1 hi h2
def Ysc(hk:k<=5)(i:Nat)(hi:i<=5):mI ((k+1)*605646+1) i<=25437181:=by
 have h1:(k+1)*605646+1<=3633877:=by omega
 have h2:(5+2)*(3633877+5+1)<=25437181:=by omega
 exact IY h1 hi h2
def Yff(h:mb k 5=true)(h2:k<=64):k<=5:=by
 unfold mb at h
 have:=of_decide_eq_true h
 omega
structure OkS (m:List (List aQ)) (l:List aQ):Prop where
 ok:IC m (dS m)
 VW:yk l
 len:l.length=dS m
 le:m.length<=5
 n5:dS m<=5
 qm:cB (lh m) 48
 ql:∀q∈px l,Qb 48 q
def zQ(m:List (List aQ))(l:List aQ):Int:=cF [lS m 64 16,kK l (dS m)]
def Ylx(h:zQ m l=0)(sm:pT 5 5 m=true)(sl:gF 5 l=true)(P7:Ce 12 ([l]++m)=true):OkS m l:=by
 have DW:=VX sm (show 5<=6 by decide) (show 5<=6 by decide)
 have IZ:=P8 sl (show 5<=6 by decide)
 have hM:=VY (KV h (lS m 64 16) (by simp)) DW
 obtain⟨zl,hL⟩:=Zy9 (KV h (kK l (dS m)) (by simp)) IZ
 have hn6:=hM.n6
 have hle:=hM.le
 have hb:∀r∈[l]++m,∀s∈r,s.length<=12:=fun r hr s hs=>by
  unfold Ce at P7
  have h1:=lB.1 P7 r hr
  unfold IV at h1
  exact of_decide_eq_true (lB.1 h1 s hs)
 refine⟨hM,hL,zl,Yff (Yc8 sm).1 (by omega),Yff (by rw[<-zl];exact VZ sl) (by omega),fun r hr q hq=>?_,fun q hq=>?_⟩
 ·obtain⟨x,hx,rfl⟩:=dt.1 hr
  obtain⟨s,hs,rfl⟩:=dt.1 hq
  exact UU (n:=12) ((hM.row x hx).2 s hs).1 (hb x (List.mem_append_right _ hx) s hs) (by decide)
 ·obtain⟨s,hs,rfl⟩:=dt.1 hq
  exact UU (n:=12) (hL s hs).1 (hb l (List.mem_append_left _ (by simp)) s hs) (by decide)
def sQ(m:List (List aQ))(l:List aQ):List Rat:=wX (lh m) (px l) (dS m)
def bQ(m:List (List aQ))(l:List aQ):List Rat:=oX (lh m) (px l) (dS m)
def zR(m:List (List aQ))(l:List aQ):Int:=if zQ m l=0 then cF [if fv (sQ m l)=true then 4 else 0,if fv (bQ m l)=true then 4 else 0] else zQ m l
def KW(m:List (List aQ))(l:List aQ)(a b:V)(e:Int)(h:T O)(n:Nat):Prop:=(zR m l≠0/\a=.aa/\b=.aa/\e=zR m l)\/(zR m l=0/\e=0/\Tx h n a (sQ m l)/\Tx h n b (bQ m l))
def V0{c:Nat}:(wX D x c).length=c:=by
 unfold wX
 split
 ·simp
 ·rw[dL,pS]
def I1{c:Nat}:(oX D x c).length=c:=by
 unfold oX
 split
 ·simp
 ·rw[dL,pS]
def Zxl{c:Nat}(hD:bg D c)(hx:x.length=c):Cg x (wX D x c)=oX D x c:=by
 apply I3
 ·rw[Cg,zy,hx,I1]
 ·intro i hi
  rw[Cg,zy,hx]at hi
  rw[Cg,hx,I4 hi,fX,Zxn hD i hi]
  grind
def Yhg{c:Nat}(hD:bg D c)(hx:x.length=c):ks (fun x y=>x+y) x ((oX D x c).map fun q=>q*(-1)) x.length=wX D x c:=by
 apply I3
 ·rw[zy,hx,V0]
 ·intro i hi
  rw[zy,hx]at hi
  have hb:i<(oX D x c).length:=by rw[I1];exact hi
  rw[hx,I4 hi,fX,Zxn hD i hi,eY,cy hb]
  simp only[pL,fX]
  grind
set_option maxHeartbeats 4000000
def A.b11:=A.q Tryz.f11
def A.k11:=@A.kk 11 39 [.tmp 4,.tmp 5] A.b11 (by kernel_rfl) rfl
def Yks{a b:List Rat}(h:a.length=b.length):de a b=de b a:=by
 rw[VM (n:=a.length) rfl,VM (n:=a.length) h.symm]
 congr 1
 funext i
 grind
def V1{c x y z:Nat}(hc:c<=5)(h:5*x+y<=z):c*x+y<=z:=k_ (Nat.add_le_add_right (jB _ hc) _) h
def P9{c x a b d z:Nat}(hc:c<=5)(h:5*x+a+b+d<=z):c*x+a+b+d<=z:=k_ (Nat.add_le_add_right (Nat.add_le_add_right (Nat.add_le_add_right (jB _ hc) _) _) _) h
def Ylh{D:List (List Rat)}{x:List Rat}{c:Nat}(hD:bg D c)(q:cB D 48)(hn:c<=5)(hs:D.length<=5)(qx:∀q∈x,Qb 48 q)(h0:0<(bp D c).length):(bp D c).length<=5/\cB (bp D c) 60564/\bg (bp D c) c/\cB (eW (bp D c) (bp D c)) 605646/\∃J,pr (eW (bp D c) (bp D c)) (bp D c).length=some J/\cB J 42395269/\J.length=(bp D c).length/\bg J (bp D c).length/\(∀q∈(bp D c).map (fun r=>de r x),Qb 303066 q)/\∀q∈J.map (fun r=>de r ((bp D c).map fun r=>de r x)),Qb 25437181 q:=by
 have qK:=Ynw hD q hn hs
 have rK:bg (bp D c) c:=uV DR
 have kl:(bp D c).length<=5:=by
  have h1:=@P5 (l9 D c) c
  have h2:=Zxp hD
  show (aU (l9 D c) c).length<=5
  omega
 have qG:cB (eW (bp D c) (bp D c)) 605646:=(Yl3 rK qK qK (by decide) (by decide)).mono (V1 hn (by decide))
 have qv:∀q∈(bp D c).map (fun r=>de r x),Qb 303066 q:=fun q hq=>by
  obtain⟨r,hr,rfl⟩:=dt.1 hq
  exact(KX (n:=c) (qK r hr) qx (by decide) (by decide) (by rw[rK r hr];exact aM _)).mono (V1 hn (by decide))
 obtain⟨J,hJ,hS⟩:=P4 (m:=l9 D c) (c:=c) (v:=(bp D c).map fun r=>de r x) DR h0 (by rw[dL];rfl)
 change pr (eW (bp D c) (bp D c)) (bp D c).length=some J at hJ
 change pQ (eW (bp D c) (bp D c)) (qU ((bp D c).map fun r=>de r x)) (bp D c).length 1=some _ at hS
 obtain⟨f1,f2,f3⟩:=Yth (B:=mI (((bp D c).length+(bp D c).length)*605646+1)) (Z:=42395269) (@wY (bp D c) (bp D c)) qV (Ymq wY qV qG (by decide)) (Yly kl _ kl) hJ
 have lv:((bp D c).map fun r=>de r x).length=(bp D c).length:=dL ..
 have kg:=(Yl0 (B:=mI (((bp D c).length+1)*605646+1)) (Z:=25437181) (@wY (bp D c) (bp D c)) IT (by rw[qV,DU,lv];exact aM _) (VV wY (by rw[qV,lv]) qG (fun q hq=>(qv q hq).mono (by decide)) (by decide)) (fun i hi=>Ysc kl i (by omega)) (by rw[qV];exact aM _) hS).1
 have eT:eI (qU ((bp D c).map fun r=>de r x)) 1=[(bp D c).map fun r=>de r x]:=V2 (m:=[(bp D c).map fun r=>de r x]) (n:=((bp D c).map fun r=>de r x).length) (fun r hr=>by
  obtain rfl:r=_:=by simpa using hr
  rfl)
 rw[eT]at kg
 refine⟨kl,qK,rK,qG,J,hJ,f1,f2,f3,qv,fun q hq=>?_⟩
 obtain⟨r,hr,rfl⟩:=dt.1 hq
 rw[Yks (by rw[lv,f3 r hr])]
 exact kg [de ((bp D c).map fun r=>de r x) r] (by
  unfold eW
  exact dt.2 ⟨r,hr,rfl⟩) _ (by simp)
def Ydm{h:T O}{N c:Nat}{u v:V}{D:List (List Rat)}{x:List Rat}(hu:iw h N u D)(hv:Tx h N v x)(hD:bg D c)(hx:x.length=c)(ui:0<D.length)(hs:D.length<=5)(fy:0<c)(hc:c<=5)(qD:cB D 48)(qx:∀q∈x,Qb 48 q):Fn A.C 11 [u,v] h N (fun y h' n'=>∃a b,y=.aX [a,b]/\Tx h' n' a (wX D x c)/\Tx h' n' b (oX D x c)):=by
 intro W
 have lv:=hv.len
 rw[hx]at lv
 rw[aR,A.k11 (by simp)]
 simp(disch:=first|(simp;done)|omega|rfl) [-getElem?_pos,A.b11]
 refine aA (Yd0 hu hD (by omega) ui fy (by omega) (fun r hr q hq=>(qD r hr q hq).mono (by decide))) ?_
 rintro K H1 n1 k1 hK
 have lK:=hK.len
 simp(disch:=first|(simp;done)|omega|rfl) [-getElem?_pos,lv]
 refine aA (Vn fy (by omega)) ?_
 rintro _ H2 n2 k2 ⟨R,rfl,hR,s2⟩
 have fr:=s2.B1
 rw[dL,List.length_range]at fr
 have j2:=k1.trans k2
 have fin:∀(b:V) (H n:_) (kH:ab h N H n),Tx H n b (oX D x c)->(∀q∈oX D x c,Qb 200000000 q)->Fn A.C 62 [b,.str [45,49]] H n (fun y h' n'=>Own 1 39 n h' n' y ((tx ((oX D x c).map fun q=>q* -1)).map fun y=>[y])):=fun b H n kH hb qb=>by
  have:=UH (c:= -1) (k:=1) hb qb (by constructor<;>decide) (by decide) (by decide) (by rw[I1];omega)
  rwa [Yr4]at this
 have KY:∀(b:V) (H n:_) (kH:ab h N H n),Tx H n b ((oX D x c).map fun q=>q* -1)->(∀q∈oX D x c,Qb 200000000 q)->Fn A.C 61 [v,b] H n (fun y h' n'=>Own 1 39 n h' n' y ((tx (wX D x c)).map fun y=>[y])):=fun b H n kH hb qb=>by
  have:=Zzp (j:=48) (k:=200000001) (hv.ae kH) hb (by rw[dL,I1,hx];exact aM _) qx (fun q hq=>by
   obtain⟨p,hp,rfl⟩:=dt.1 hq
   exact(qb p hp).mul (k:=1) (by constructor<;>decide)) (by decide) (by decide) (by omega)
  rwa [Yhg hD hx]at this
 by_cases h0:(bp D c).length=0
 ·have eB:oX D x c=(List.range c).map fun _=>0:=by unfold oX;rw[av h0]
  have hb:Tx H2 n2 (.slice R 0 c none 1) (oX D x c):=by rw[eB];exact fr.1
  have qb:∀q∈oX D x c,Qb 200000000 q:=fun q hq=>by
   rw[eB]at hq
   obtain⟨_,_,rfl⟩:=dt.1 hq
   exact Qb.zero.mono (by decide)
  simp(disch:=first|(simp;done)|omega|rfl) [-getElem?_pos,lK,h0]
  refine aA (fin _ H2 n2 j2 hb qb) ?_
  rintro y3 H3 n3 k3 KZ
  simp(disch:=first|(simp;done)|omega|rfl) [-getElem?_pos,]
  refine aA (KY _ H3 n3 (j2.trans k3) (xZ KZ).1 qb) ?_
  rintro y4 H4 n4 k4 FI
  simp(disch:=first|(simp;done)|omega|rfl) [-getElem?_pos,aE]
  exact⟨(j2.trans k3).trans k4,_,_,⟨rfl,rfl⟩,(xZ FI).1,(hb.ae k3).ae k4⟩
 ·have iO:0<(bp D c).length:=by omega
  have FY:(0:Int)<((bp D c).length:Int):=by omega
  obtain⟨kl,qK,rK,qG,J,hJ,qJ,lJ,rJ,qv,qy⟩:=Ylh hD qD hc hs qx iO
  have eB:oX D x c=(eI (bp D c) c).map fun r=>de r (J.map fun r=>de r ((bp D c).map fun r=>de r x)):=by unfold oX;rw[ak h0,hJ];rfl
  have qT:∀r∈eI (bp D c) c,r.length=(bp D c).length/\∀q∈r,Qb 60564 q:=FX qK (by decide)
  have qb:∀q∈oX D x c,Qb 200000000 q:=fun q hq=>by
   rw[eB]at hq
   obtain⟨r,hr,rfl⟩:=dt.1 hq
   obtain⟨a1,a2⟩:=qT r hr
   exact(KX (n:=(bp D c).length) a2 qy (by decide) (by decide) (by rw[a1];exact aM _)).mono (V1 kl (by decide))
  simp(disch:=first|(simp;done)|omega|rfl) [-getElem?_pos,lK,iO,FY]
  refine aA (V3 (hK.ae k2) rK (by omega) (by omega) iO) ?_
  rintro y3 H3 n3 k3 KZ
  simp(disch:=first|(simp;done)|omega|rfl) [-getElem?_pos,]
  refine aA (Ydk (c:=(bp D c).length) (j:=60564) (k:=60564) ((hK.ae k2).ae k3) KZ.yB (fun r hr=>by rw[pS,rK r hr];exact aM _) IU (by rw[pS];exact fy) (by omega) (by rw[pS];omega) (by omega) qK (fun r hr=>(qT r hr).2) (by decide) (by decide) (by rw[pS];exact P9 hc (by decide))) ?_
  rw[V2 rK]
  rintro y4 H4 n4 k4 FI
  simp(disch:=first|(simp;done)|omega|rfl) [-getElem?_pos,]
  refine aA (Yod (n:=(bp D c).length) (B:=mI (((bp D c).length+(bp D c).length)*605646+1)) FI wY qV iO (by omega) (fun _=>VL) (Ymq wY qV qG (by decide)) (fun i hi=>k_ (jr 3 (Yly kl i (by omega))) (by decide))) ?_
  rintro x5 H5 Ch k5 hx5
  rcases hx5 with⟨a1,_⟩|⟨J',z,a1,rfl,a2⟩
  ·rw[hJ]at a1;cases a1
  ·rw[hJ]at a1
   obtain rfl:=oV a1
   have j5:=(k3.trans k4).trans k5
   have hK5:=(hK.ae k2).ae j5
   simp(disch:=first|(simp;done)|omega|rfl) [-getElem?_pos,ct.cv]
   refine aA (V3 hK5 rK (by omega) (by omega) iO) ?_
   rintro y6 H6 n6 k6 hy6
   have j6:=(j2.trans j5).trans k6
   simp(disch:=first|(simp;done)|omega|rfl) [-getElem?_pos,]
   refine aA (Qa (n:=c) (j:=60564) (k:=48) (hK5.ae k6) (hv.ae j6) (fun r hr=>⟨rK r hr,qK r hr⟩) (by omega) qx (by decide) (by decide) (P9 hc (by decide)) (by omega)) ?_
   rintro y7 H7 n7 k7 Qc
   simp(disch:=first|(simp;done)|omega|rfl) [-getElem?_pos,]
   refine aA (Qa (n:=(bp D c).length) (j:=42395269) (k:=303066) ((a2.ae k6).ae k7) (xZ Qc).1 (fun r hr=>⟨rJ r hr,qJ r hr⟩) (by rw[dL];exact aM _) qv (by decide) (by decide) (P9 kl (by decide)) (by omega)) ?_
   rintro y8 H8 n8 k8 hy8
   simp(disch:=first|(simp;done)|omega|rfl) [-getElem?_pos,]
   refine aA (Qa (n:=(bp D c).length) (j:=60564) (k:=25437181) ((hy6.yB.ae k7).ae k8) (xZ hy8).1 qT (by rw[dL,lJ];exact aM _) qy (by decide) (by decide) (P9 kl (by decide)) (by rw[pS];omega)) ?_
   rw[<-eB]
   rintro y9 H9 n9 k9 hy9
   have j9:=((j6.trans k7).trans k8).trans k9
   have hb:=(xZ hy9).1
   simp(disch:=first|(simp;done)|omega|rfl) [-getElem?_pos,]
   refine aA (fin _ H9 n9 j9 hb qb) ?_
   rintro y10 H10 n10 k10 V4
   simp(disch:=first|(simp;done)|omega|rfl) [-getElem?_pos,]
   refine aA (KY _ H10 n10 (j9.trans k10) (xZ V4).1 qb) ?_
   rintro y11 H11 n11 k11 V5
   simp(disch:=first|(simp;done)|omega|rfl) [-getElem?_pos,aE]
   exact⟨(j9.trans k10).trans k11,_,_,⟨rfl,rfl⟩,(xZ V5).1,(hb.ae k10).ae k11⟩
end
end Go.Mx
