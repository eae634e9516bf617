/-
  lensletref01.divDigits: the quotient and the rest.
-/
import Derived.Test.YtlbophlgohokkaaGreatDoorRbD
set_option linter.all false
namespace Go.Mx
open Go Go.Proofs
set_option maxRecDepth 1000000
theorem Yfq{r:Nat}(h:r<1000000000):Zfp [(r:Int)]=ds r:=Zfo (Di.one (by omega) (by omega)) (by simp[vI])
theorem Zlo{h:T O}{N:Nat}{u v:V}{a b:Nat}(hu:Dn h N u a)(hv:Dn h N v b)(hb:0<b)(hl:(ds a).length<1000000000)(hl2:(ds b).length<1000000000):Fn A.C 228 [u,v] h N (fun x h' n'=>∃q r,x=.tup [q,r]∧Dn h' n' q (a/b)∧Dn h' n' r (a%b)):=by
 intro w
 have lu:=hu.len
 have lv:=hv.len
 rw[Zar]at lu lv
 rw[Zab,A.k228 (by simp)]
 by_cases hab:a<b
 ·have hc0:Ybq a b= -1:=by simp[Ybq,hab]
  have hc:=fun w=>Zsx (w:=w) hu hv (by omega) (by omega)
  simp[A.b228,hc,hc0,Ret]
  refine⟨Keeps.refl,.nilslice,u,⟨rfl,rfl⟩,?_,?_⟩
  ·rw[Yq3 hab];unfold Dn;rw[Zce];exact Sl.nil
  ·rw[Yqq hab];exact hu
 ·have hba:b≤a:=by omega
  have hlb:=Zci hba
  have hc:=fun w=>Zsx (w:=w) hu hv (by omega) (by omega)
  have hcn:¬Ybq a b<0:=by unfold Ybq;rw[Yo0 hab];split<;>omega
  have hL1:1≤(ds b).length:=by
   have:ds b≠[]:=fun hc=>by rw[Zdi]at hc;omega
   exact List.length_pos_iff.2 this
  by_cases hL:(ds b).length=1
  ·obtain⟨x,hx⟩:=Zaf (l:=ds b) (k:=0) (by omega)
   have hbx:ds b=[x]:=by
    cases hq:ds b with
    |nil=>rw[hq]at hL;simp at hL
    |cons y l=>
     rw[hq]at hL hx
     simp at hL hx
     rw[hL,hx]
   have hxv:=Zbb b
   rw[hbx]at hxv
   simp[vI]at hxv
   have hxd:=(Zb4 b).get hx
   obtain⟨b1,b2,b3,b4,b5,z1,z2,z3,z4⟩:=Sl.at (show Sl h N v (dI (ds b)) from hv) (Zbf hx)
   simp at z4
   simp[A.b228,hc,hcn,lv,hL,z1,z3,z4]
   refine Zac (Zme (show Sl h N u (dI (ds a)) from hu) (Zb4 a) (by omega) (by omega) hxd.2) ?_
   rintro y h1 n1 k1 ⟨q,rfl,hq⟩
   rw[Zbb]at hq
   simp only[Zbb]
   have e1:(a:Int).toNat=a:=by omega
   have e2:x.toNat=b:=by omega
   rw[e1,e2]at hq
   rw[e1,e2]
   have hRb:=Yqa a hb
   have hb9:b<1000000000:=by omega
   generalize hQ:a/b=Q at*
   generalize hR:a%b=R at*
   simp[splice]
   refine Zac (Zfs (l:=[(R:Int)]) (Sl.row (e:=3) (rw:=true) (cp:=some 1) (Yq1 n1) (by simp[dI]) rfl (fun k hk=>by simp at hk;omega)) (by simp)) ?_
   rintro y2 h2 n2 k2 hy2
   rw[Yfq (by omega)]at hy2
   have kk:=(Keeps.refl (h:=h1) (n:=n1)).new (.cells [.int .i64 (R:Int)] 3 true)
   simp[Ret]
   exact⟨(k1.trans kk).trans k2,q,y2,⟨rfl,rfl⟩,hq.keep (kk.trans k2),hy2⟩
  ·obtain⟨k,hk⟩:∃k,(ds b).length=k+2:=⟨(ds b).length-2,by omega⟩
   obtain⟨x,hx⟩:=Zaf (l:=ds b) (k:=k+1) (by omega)
   have hxd:=(Zb4 b).get hx
   obtain⟨f,hf,f0,f1,hlen,y1,hy1,hy5⟩:=Yhe (k:=k+1) (by omega) hx
   obtain⟨b1,b2,b3,b4,b5,z1,z2,z3,z4⟩:=Sl.at (show Sl h N v (dI (ds b)) from hv) (Zbf hx)
   have c1:((k:Int)+2-1)=(k:Int)+1:=by omega
   have c2:(k:Int)+1<(k:Int)+2:=by omega
   have c3:¬((k:Int)+2=1):=by omega
   have c4:((k:Int)+1).toNat=k+1:=by omega
   have c5:(0:Int)≤(k:Int)+1:=by omega
   have w1:Zaq .i64 (x+1)=x+1:=Zai (by omega) (by omega)
   have w2:(1000000000:Int).tdiv (x+1)=f:=by rw[hf];exact Yp4 (by decide)
   have w3:Zaq .i64 (f:Int)=f:=Zai (by omega) (by omega)
   have c6:¬x+1=0:=by omega
   rw[hk]at lv
   simp(disch:=omega) [A.b228,hc,hcn,lv,c1,c3,c4,z1,z3,z4,w1,w2,w3,splice]
   have k0:=(Keeps.refl (h:=h) (n:=N)).new (.cells [.int .i64 (f:Int)] 3 true)
   have hfr:Sl (h.set N (.cells [.int .i64 (f:Int)] 3 true)) (N+1) (.slice N 0 1 (some 1) 1) (dI [(f:Int)]):=Sl.row (e:=3) (rw:=true) (Yq1 N) (by simp[dI]) rfl (fun k hk=>by simp at hk;omega)
   have dF:Di [(f:Int)]:=Di.one (by omega) (by omega)
   refine Zac (Zrt (a:=b) (b:=f) (Sl.keep hv k0) hfr (Zb4 b) dF (Zbb b) (by simp[vI]) (by simp;omega)) ?_
   rintro vv h1 n1 k1 hvv
   have kle1:=k1.le
   have lvv:=hvv.len
   have hlen':(ds (b*f)).length=k+2:=by omega
   rw[Zar,hlen']at lvv
   simp[lvv]
   have k1a:=(Keeps.refl (h:=h1) (n:=n1)).new (.cells [] 3 true)
   refine Zac (Zrt (a:=a) (b:=f) (((Sl.keep hu k0).keep k1).keep k1a) ((hfr.keep k1).keep k1a) (Zb4 a) dF (Zbb a) (by simp[vI]) (by simp;omega)) ?_
   rintro uu h2 n2 k2 huu
   have kle2:=k2.le
   have hne:ds (a*f)≠[]:=fun hc=>by
    rw[Zdi]at hc
    have:0<a*f:=Ysa (by omega) f0
    omega
   have hlaf:(ds (a*f)).length≤(ds a).length+1:=by
    apply Zfc
    have g1:=Zhv (Zb4 a)
    rw[Zbb,Yfd]at g1
    have g2:a<1000000000^(ds a).length:=by exact_mod_cast g1
    rw[Ypn]
    exact Yrq g2 f1
   have hemp:=(k2.get n1 (by omega)).trans (show _=some (.cells [] 3 true) by simp)
   have hap:=Zq7 (w:=[]) hemp huu hne (by omega)
   simp[hap]
   have hN2:N≤n2:=by omega
   have kk2:=(((k0.trans k1).trans k1a).trans k2)
   refine Zaj [(11,11),(63,71)] (fun e r st=>e=.exit 0∧PdI N h2 n2 (ds a).length ((a*f:Nat):Int) 0 r st) (PdI N h2 n2 (ds a).length ((a*f:Nat):Int)) ((ds a).length+1-(ds (a*f)).length) ?_ ?_ ?_
   ·refine⟨by simp,Keeps.refl.new _,_,ds (a*f),by simp;rfl,⟨fun q hq=>?_,.inr ⟨n2,by rw[Zdd],Yoy _,by show n2<n2+1;omega,by simp[Zjy]⟩⟩,by omega,Zbb _,Zb4 _⟩
    simp[Ze1]at hq
    obtain⟨q',_,rfl⟩:=hq
    rfl
   ·exact Ycv (((Sl.keep hu k0).keep k1).keep k1a |>.keep k2) rfl (by omega) (by simp)
   ·rintro _ r ⟨H,n3,W⟩ hr ⟨rfl,hW,hK,u3,l,h11,ho,hm,hval,hdl⟩
    simp only at hW hK ho
    obtain⟨_,⟨h0,_⟩|⟨iu,hu3,i1,i2,i3⟩⟩:=ho
    ·simp[Ze1]at h0;rw[h0]at hm;simp at hm
    ·rw[Zdd]at hu3
     rw[Zjy]at i3
     subst hu3
     have hlu:l.length=(ds a).length+1:=by omega
     have hka:k+2<l.length:=by omega
     obtain⟨S,hS⟩:∃S,S=l.length-(k+2):=⟨_,rfl⟩
     have cS:((l.length:Int)-((k:Int)+2))=(S:Int):=by omega
     have oN:=Zgk hN2 hW
     have kH:=hK.new (.cells (dI (List.replicate S 0)) 3 true)
     have nle:=hK.le
     have mz:(Zc7 [.int .i64 0] S:List V)=dI (List.replicate S 0):=Zoy
     simp(disch:=first|(simp;done)|omega|rfl) [hr,h11,cS,mz]
     have hvY:=Dn.keep hvv (k1a.trans k2)
     have hval':vI l=(a*f:Nat):=hval
     refine Zaj [(13,21),(82,191)] (fun e r st=>e=.exit 2∧OuI N h2 n2 iu n3 (n3+1) l.length (k+2) ((a*f:Nat):Int) (ds (b*f)) 0 r st) (OuI N h2 n2 iu n3 (n3+1) l.length (k+2) ((a*f:Nat):Int) (ds (b*f))) S ?_ ?_ ?_
     ·refine⟨l,List.replicate S 0,⟨oN,kH,rfl,?_,by simp⟩,by simp,rfl,by simp[hS],by omega,hdl,Di.zeros _,fun s h1 h2=>by omega,?_,fun s hs=>by simp[hs],by rw[Zn4,hval];simp⟩
      ·rw[T.get_set,Yo0 (by omega)];exact i3
      ·obtain⟨x',hx',x0,x1,lo,hi⟩:=Zmd (b:=b) (k:=k+1) (by omega)
       have g1:=Zhv (Zb4 a)
       rw[Zbb,show (ds a).length=S+(k+1) by omega,Ztv]at g1
       have g2:=Zio l S (by omega)
       have g3:=Zhu (hdl.take S)
       have g4:pI (k+1)*1≤pI (k+1)*x':=Ype (by omega) (Yqw (Zi2 _))
       have g5:pI S*pI (k+1)≤pI S*b:=Ype (by omega) (Yqw (Zi2 _))
       have g6:(a:Int)*f<pI S*b*f:=Int.mul_lt_mul_of_pos_right (by omega) (by omega)
       rw[Zbb]
       apply Ysj
       intro hc
       have g7:pI S*((b*f:Nat):Int)≤pI S*vI (l.drop S):=Ype hc (Yqw (Zi2 _))
       have g8:pI S*((b*f:Nat):Int)=pI S*b*f:=by push_cast;grind
       have g9:((a*f:Nat):Int)=(a:Int)*f:=by push_cast;rfl
       omega
     ·exact Ycw hvY hlen' (Zb4 _) hy1 hy5 hka (by omega) (by simp[hr]) (by simp[hr]) (by simp[h11]) (by simp[hS]) hN2 i1 i2 (Yq1 n3)
     ·rintro _ r4 ⟨H4,n4,W4⟩ hr4 ⟨rfl,U,Q,⟨hW4,hK4,hn4,ru4,rq4⟩,r13,hUl,hQl,_,dU,dQ,hz,hdr,_,hfin⟩
      simp only at hW4 hK4 hn4 ru4 rq4
      subst hn4
      rw[Yri]at hdr
      rw[Zbb]at hdr hfin
      obtain⟨qn,hqn⟩:=Yre (Zhu dQ)
      obtain⟨un,hun⟩:=Yre (Zhu dU)
      rw[hqn,hun]at hfin
      rw[hun]at hdr
      have hfn:un+b*f*qn=a*f:=by exact_mod_cast hfin
      have hdn:un<b*f:=by exact_mod_cast hdr
      have m1:a/b=qn:=by
       have:a*f/(b*f)=qn:=by
        rw[←hfn,Nat.add_mul_div_left _ _ (by omega),Yq3 hdn,Yq7]
       rw[←this,Ysu _ _ f0]
      have m2:un/f=a%b:=by
       have:a*f%(b*f)=un:=by rw[←hfn,Nat.add_mul_mod_self_left,Yqq hdn]
       rw[←this,Ysd,Nat.mul_div_cancel _ f0]
      have hsU:Sl H4 (n3+1) (.slice iu 0 l.length none 1) (dI U):=Sl.row (by omega) ru4 (by simp[hUl]) (fun k hk=>by cases hk)
      have hsQ:Sl H4 (n3+1) (.slice n3 0 S (some S) 1) (dI Q):=Sl.row (by omega) rq4 (by simp[hQl,hS]) (fun k hk=>by simp at hk;omega)
      obtain⟨v',e1,e2⟩:=Zem (w:=[]) hsU (lo:=0) (hi:=k+2) (by omega) (by rw[Zar];omega) none (some (.int .i64 ((k+2:Nat):Int))) (.inr ⟨rfl,rfl⟩) (.inl rfl)
      have e3:((dI U).take (k+2)).drop 0=dI (U.take (k+2)):=by rw[Yri,dI,←List.map_take];rfl
      rw[e3]at e2
      have ck:((k+2:Nat):Int)=(k:Int)+2:=by omega
      rw[ck]at e1
      have frow:=(hK4.get N (by omega)).trans ((k2.get N (by omega)).trans ((show _=h1.get N by simp;omega).trans ((k1.get N (by omega)).trans (show _=some (.cells [.int .i64 (f:Int)] 3 true) by simp))))
      have hdU2:vI (U.take (k+2))=un:=by
       rw[←hun]
       exact(Zgb (fun t h1 h2=>hz t (by omega) (by omega))).symm
      simp[hr,hr4,h11,Zbv,evOpt,e1]
      refine Zac (Zfs e2 (by simp;omega)) ?_
      rintro y5 h5 n5 k5 hy5'
      rw[Zfo (dU.take _) hdU2]at hy5'
      have kle5:=k5.le
      have frow5:=(k5.get N (by omega)).trans frow
      have lt5:N<n5:=by omega
      have lt4:iu<n3+1:=by omega
      have lenun:(ds un).length<1099511627776:=by
       have:(ds un).length≤(ds (b*f)).length:=Zci (by omega)
       omega
      simp[hr,hr4,frow5]
      refine Zac (Zme (d:=(f:Int)) hy5' (Zb4 un) lenun (by omega) (by omega)) ?_
      rintro y6 h6 n6 k6 ⟨q6,rfl,hq6⟩
      have t1:(vI (ds un)).toNat=un:=by rw[Zbb];omega
      have t2:((f:Nat):Int).toNat=f:=by omega
      rw[t1,t2]at hq6
      rw[m2]at hq6
      generalize ((vI (ds un)).toNat%(f:Int).toNat)=ZZ
      simp[hr4,lt5]
      refine Zac (Zfs ((hsQ.keep k5).keep k6) (by omega)) ?_
      rintro y7 h7 n7 k7 hy7
      rw[Zfo dQ hqn]at hy7
      have oN4:Zaa N W4=[]:=hW4
      have kall:=(((kk2.trans hK4).trans k5).trans k6).trans k7
      simp[Ret,oN4]
      refine⟨kall,y7,q6,⟨rfl,rfl⟩,?_,?_⟩
      ·rw[m1];exact hy7
      ·exact Sl.keep hq6 k7
variable {s:Str}
def A.lb161_0:Zae:=.seq (sr [mv 7 1,ln 8 7,bc 9 .gtr 8 0]
 (cd 9
 (.skip)
 (.exit 0)))
 (.block 1 (sr [mv 11 0,mv 12 1,c2 13 228 11 12,mv 10 13,xt 14 10 0,xt 15 10 1,mv 5 14,mv 6 15]
 (.reg [mv 16 1,mv 17 6,mv 0 16,mv 1 17])))
def A.b161:Zae:=sr [mN 4]
 (.seq (.block 0 (.loop A.lb161_0))
 (sr [mv 18 0,mv 4 18]
 (.ret)))
theorem A.c161:A.F 161=some ⟨19,[.tmp 4],A.b161⟩:=by kernel_rfl
def A.k161:=@A.kk 161 _ _ _ A.c161 rfl
def A.lb226_0:Zae:=.seq (sr [mv 16 0,⟨(some 17),.len 0 (.tmp 16),none⟩,bc 18 .gtr 17 9]
 (cd 18
 (.skip)
 (.exit 0)))
 (.block 1 (sr [mv 19 4,mv 20 0,mv 21 0,⟨(some 22),.len 0 (.tmp 21),none⟩,bc 23 .sub 22 9,⟨(some 24),.sliceStr (.tmp 20) (some (.tmp 23)) none,none⟩,c1 25 229 24,⟨(some 26),.bslice 3 1 1 [(.int .i64 0)] [(0,1,(.tmp 25))],none⟩,⟨(some 27),.append 1 8 3 [(.int .i64 0)] (.tmp 19) (.tmp 26),none⟩,mv 4 27]
 (.reg [mv 28 0,mv 29 0,⟨(some 30),.len 0 (.tmp 29),none⟩,bc 31 .sub 30 9,⟨(some 32),.sliceStr (.tmp 28) none (some (.tmp 31)),none⟩,mv 0 32])))
def A.b226:Zae:=sr [⟨(some 2),.alloc [(.bool false),.nilslice] 175,none⟩]
 (sr [mv 5 0,⟨(some 6),.len 0 (.tmp 5),none⟩,bc 7 .gtr 6 0,mv 8 7,mg 9 0 8,⟨(some 10),.idxStr (.tmp 9) (.const (.int .i64 0)),(some (8,true))⟩,⟨(some 11),.bin .eql (.prim .int) true (.tmp 10) (.const (.int .u8 45)),(some (8,true))⟩,pf 12 8 11,mv 3 12]
 (.seq (sr [mv 13 3]
 (cd 13
 (.reg [mv 14 0,⟨(some 15),.sliceStr (.tmp 14) (some (.const (.int .i64 1))) none,none⟩,mv 0 15])
 (.skip)))
 (sr [mN 4]
 (.seq (.block 0 (.loop A.lb226_0))
 (sr [mv 33 3,mv 34 4,mv 35 0,c1 36 229 35,⟨(some 37),.bslice 3 1 1 [(.int .i64 0)] [(0,1,(.tmp 36))],none⟩,⟨(some 38),.append 1 8 3 [(.int .i64 0)] (.tmp 34) (.tmp 37),none⟩,c2 39 234 33 38,⟨none,.store 2 (.tmp 2) (.tmp 39),none⟩]
 (.ret))))))
theorem A.c226:A.F 226=some ⟨40,[.cell 2 (some 2)],A.b226⟩:=by kernel_rfl
def A.k226:=@A.kk 226 _ _ _ A.c226 rfl
theorem Zjj{h:T O}{N:Nat}{u v:V}{a b:Nat}(hu:Dn h N u a)(hv:Dn h N v b)(hl:(ds a).length<1000000000)(hl2:(ds b).length<1000000000):Fn A.C 161 [u,v] h N (fun x h' n'=>Dn h' n' x (Nat.gcd a b)):=by
 intro w
 rw[Zab,A.k161 (by simp)]
 simp[A.b161]
 refine Zaj [(0,1),(5,17)] (fun e r st=>e=.exit 0∧Zaa N st.w=[]∧Keeps h N st.h st.n∧∃x,r.get 0=some x∧Dn st.h st.n x (Nat.gcd a b)) (fun m r st=>Zaa N st.w=[]∧Keeps h N st.h st.n∧∃x y c,r.get 0=some x∧r.get 1=some y∧Dn st.h st.n x c∧Dn st.h st.n y m∧Nat.gcd c m=Nat.gcd a b∧(ds c).length<1000000000∧(ds m).length<1000000000) b ?_ ?_ ?_
 ·exact⟨by simp,Keeps.refl,u,v,a,by simp,by simp,hu,hv,rfl,hl,hl2⟩
 ·rintro m r ⟨H,n1,W⟩ hr hf ⟨hW,hK,x,y,c,h0,h1,hx,hy,hg,l1,l2⟩
  simp only at hW hK hx hy
  have ly:=hy.len
  rw[Zar]at ly
  rw[Zah]
  by_cases hm:m=0
  ·subst hm
   have z0:(ds 0).length=0:=by rw[Zce];rfl
   rw[z0]at ly
   simp at hg
   simp[A.lb161_0,hf,h0,h1,ly,hW,hK]
   rw[←hg];exact hx
  ·have hne:(ds m).length≠0:=fun hc=>hm (Zdi.1 (Yph hc))
   have p1:(0:Int)<((ds m).length:Int):=by omega
   have p2:0<(ds m).length:=by omega
   have p3:ds m≠[]:=fun hc=>hne (by rw[hc];rfl)
   simp[A.lb161_0,h0,h1,ly,p2]
   refine Zac (Zlo hx hy (by omega) l1 l2) ?_
   rintro z h3 n3 k3 ⟨q,r',rfl,hq,hr'⟩
   simp[hf,h1,hW]
   refine⟨c%m,Yqa _ (by omega),hK.trans k3,m,hy.keep k3,hr',?_,l2,?_⟩
   ·rw[←hg,Nat.gcd_comm c m,Nat.gcd_rec m c,Nat.gcd_comm]
   ·have:=Zci (a:=c%m) (b:=m) (Nat.le_of_lt (Yqa _ (by omega)));omega
 ·rintro _ r ⟨H,n1,W⟩ hr ⟨rfl,hW,hK,x,h0,hx⟩
  simp only at hW hK hx
  simp[h0,Ret,hW,hK]
  exact hx
theorem Zt1(x:Str):∀(y:Str),numV (x++y)=numV x*10^y.length+numV y:=by
 have key:∀(y:Str) (n:Nat),y.foldl (fun n (c:UInt8)=>10*n+(c.toNat-48)) n=n*10^y.length+y.foldl (fun n (c:UInt8)=>10*n+(c.toNat-48)) 0:=by
  intro y
  induction y with
  |nil=>simp
  |cons c y ih=>
   intro n
   rw[List.foldl_cons,List.foldl_cons,ih,ih (10*0+(c.toNat-48)),Yoz,Ypn]
   grind
 intro y
 unfold numV
 rw[List.foldl_append,key]
theorem Zq8(h:Zb3 s=true)(k:Nat):Zb3 (s.take k)=true:=by
 unfold Zb3 at*
 rw[Ypv]at*
 exact fun c hc=>h c (Yrr hc)
theorem Zjo(h:Zb3 s=true)(k:Nat):Zb3 (s.drop k)=true:=by
 unfold Zb3 at*
 rw[Ypv]at*
 exact fun c hc=>h c (List.mem_of_mem_drop hc)
def PsI(h0:T O)(N:Nat)(s:Str)(m:Nat)(r:T V)(st:St):Prop:=Zaa N st.w=[]∧Keeps h0 N st.h st.n∧∃cur w l,r.get 0=some (.str cur)∧cur.length=m∧1≤m∧m≤s.length∧Zb3 cur=true∧r.get 4=some w∧Own 1 3 N st.h st.n w (Ze1 l)∧Di l∧l.length+m≤s.length∧vI l+pI l.length*(numV cur:Nat)=(numV s:Nat)
theorem Zk0(hd:Zb3 s=true)(h1:1≤s.length)(h2:s.length≤3000000){h:T O}{N:Nat}:Fn A.C 226 [.str s] h N (fun v h' n'=>Rg h' n' v (numV s:Nat)):=by
 intro w
 obtain⟨c,hc⟩:=Zaf (l:=s) (k:=0) (by omega)
 have hcd:=Zjn hd hc
 have hc0:s.head?=some c:=by cases s with
  |nil=>simp at hc
  |cons=>simpa using hc
 have a1:¬u8I c=45:=by omega
 have a2:(0:Int)<(s.length:Int):=by omega
 have a3:0<s.length:=by omega
 have hne:s≠[]:=fun h=>by rw[h]at h1;simp at h1
 rw[Zab,A.k226 (by simp)]
 simp(disch:=first|(simp;done)|omega|rfl) [-getElem?_pos,A.b226,a1,a3,hc]
 refine Zaj [(0,0),(4,4),(16,32)] (fun e r st=>e=.exit 0∧∃m,m≤9∧PsI (h.set N (.cells [.bool false,.nilslice] 175 true)) (N+1) s m r st) (PsI (h.set N (.cells [.bool false,.nilslice] 175 true)) (N+1) s) s.length ?_ ?_ ?_
 ·exact⟨by simp,Keeps.refl,s,.nilslice,[],by simp,rfl,h1,Yoy _,hd,by simp,Own.nil,Di.nil,by simp,by simp[vI,pI]⟩
 ·rintro m r ⟨H,n1,W⟩ hr hf ⟨hW,hK,cur,u,l,g0,hcl,m1,m2,hcd,g4,ho,hdi,hll,hv⟩
  simp only at hW hK ho
  subst hcl
  rw[Zah]
  by_cases h9:9<cur.length
  ·have h9':(9:Int)<(cur.length:Int):=by omega
   have nle:=hK.le
   have hvd:=Zim (s:=cur.drop (cur.length-9)) (st:=⟨H,n1,W⟩) (Zjo hcd _) (by simp;omega)
   have hcn:((cur.length:Int)-9).toNat=cur.length-9:=by omega
   have hnv:=Zdz (Zjo hcd (cur.length-9))
   have hdl:(cur.drop (cur.length-9)).length=9:=by simp;omega
   rw[hdl]at hnv
   have hsp:=Zt1 (cur.take (cur.length-9)) (cur.drop (cur.length-9))
   rw[Yq8,hdl,show (10:Nat)^9=1000000000 by decide]at hsp
   generalize hD:numV (cur.drop (cur.length-9))=D at*
   obtain⟨v',h',w',e1,e2,e3,e4,e5⟩:=Zbi (x:=[.int .i64 (D:Int)]) (u:=.slice n1 0 1 (some 1) 1) (bytes:=8) (w:=W) (ho.keep (Keeps.refl.new (.cells [.int .i64 (D:Int)] 3 true))) (by omega) (by decide) rfl (by simp[Zaw,St.row,slc]) (by rw[Zdd];omega)
   rw[←Zc3]at e5
   simp(disch:=first|(simp;done)|omega|rfl) [A.lb226_0,hf,g0,g4,h9',hcn,evOpt,hvd,splice,e1]
   refine⟨cur.length-9,by omega,⟨by rw[e2];exact hW,(hK.new _).then e3,cur.take (cur.length-9),v',l++[(D:Int)],by simp,by simp,by omega,by omega,Zq8 hcd _,by simp,e5,hdi.app (Di.one (by omega) (by omega)),by simp;omega,?_⟩⟩
   rw[Zfm,Ypm,Yqi,Zcs,←hv]
   have hsp':((numV cur:Nat):Int)=(numV (cur.take (cur.length-9)):Nat)*1000000000+D:=by omega
   rw[hsp']
   generalize ((numV (cur.take (cur.length-9)):Nat):Int)=X
   generalize pI l.length=P
   grind
  ·have h9':¬(9:Int)<(cur.length:Int):=by omega
   simp[A.lb226_0,hf,g0,h9']
   exact⟨cur.length,by omega,hW,hK,cur,u,l,by simp[g0],rfl,m1,m2,hcd,by simp[g4],ho,hdi,hll,hv⟩
 ·rintro _ r ⟨H,n1,W⟩ hr ⟨rfl,m,m9,hW,hK,cur,u,l,g0,hcl,m1,m2,hcd,g4,ho,hdi,hll,hv⟩
  simp only at hW hK ho
  subst hcl
  have nle:=hK.le
  have hvd:=Zim (s:=cur) (st:=⟨H,n1,W⟩) hcd (by omega)
  have hnv:=Zdz hcd
  have hp9:=Ztx m9
  generalize hD:numV cur=D at*
  obtain⟨v',h',w',e1,e2,e3,e4,e5⟩:=Zbi (x:=[.int .i64 (D:Int)]) (u:=.slice n1 0 1 (some 1) 1) (bytes:=8) (w:=W) (ho.keep (Keeps.refl.new (.cells [.int .i64 (D:Int)] 3 true))) (by omega) (by decide) rfl (by simp[Zaw,St.row,slc]) (by rw[Zdd];omega)
  rw[←Zc3]at e5
  simp[hr,g0,g4,hvd,splice,e1]
  have hdi2:Di (l++[(D:Int)]):=hdi.app (Di.one (by omega) (by omega))
  refine Zac (Zbq (n:=numV s) e5.sl hdi2 (by rw[Zfm];exact hv) (by simp;omega)) ?_
  rintro y h5 n5 k5 hy
  have kk:=((hK.new (.cells [.int .i64 (D:Int)] 3 true)).then e3).trans k5
  have kle:=kk.le
  have nrow:=kk.get N (by omega)
  simp at nrow
  obtain⟨u5,rfl,hu5⟩:=hy
  have hu6:=fun c1 (hc:c1.length=2)=>Sl.setInt (i:=N) (c1:=c1) (e1:=175) (w1:=true) hu5 nrow (by intro x hx k m;simp at hx;rcases hx with rfl|rfl<;>simp) hc
  have huo:=Sl.form hu5 |>.one
  unfold V.one at huo
  have ow:Zaa N w'=[]:=Zgk (Ysg N) (by rw[e2];exact hW)
  have k0:=(Keeps.refl (h:=h) (n:=N)).new (.cells [.bool false,.nilslice] 175 true)
  simp[hr,nrow,splice,Zak,huo,Zal,slc,Ret,ow]
  exact⟨(k0.trans kk).set (Yoy N),u5,by simp,by simpa[Dn]using hu6 _ rfl⟩
end Go.Mx
