/-lensletref01-/
import Derived.Test.YtdlikflhcjmkeaaGreatDoorRbG
set_option linter.all false
namespace Go.Mx
noncomputable section
open Go Go.Proofs
set_option maxRecDepth 1000000
def Ygq{r:Nat}(h:r<1000000000):Zfv [(r:Int)]=ds r:=Zfu (Di.one (by omega) (by omega)) (by simp[vI])
def Zl7{h:T O}{N:Nat}{u v:V}{a b:Nat}(hu:Dn h N u a)(hv:Dn h N v b)(hb:0<b)(hl:(ds a).length<1000000000000)(hl2:(ds b).length<1000000000000):Fn A.C 182 [u,v] h N (fun x h' n'=>∃q r,x=.tup [q,r]∧Dn h' n' q (a/b)∧Dn h' n' r (a%b)):=by
 intro w
 have lu:=hu.len
 have lv:=hv.len
 rw[Zas]at lu lv
 rw[Zab,A.k182 (by simp)]
 by_cases hab:a<b
 ·have hc0:Ycz a b= -1:=by simp[Ycz,hab]
  have hc:=fun w=>Ztl (w:=w) hu hv (by omega) (by omega)
  simp[A.b182,hc,hc0,Ret]
  refine⟨Keeps.refl,.nilslice,u,⟨rfl,rfl⟩,?_,?_⟩
  ·rw[Ysi hab];unfold Dn;rw[Zch];exact Sl.nil
  ·rw[Yr2 hab];exact hu
 ·have hba:b≤a:=by omega
  have hlb:=Zcn hba
  have hc:=fun w=>Ztl (w:=w) hu hv (by omega) (by omega)
  have hcn:¬Ycz a b<0:=by unfold Ycz;rw[Yqe hab];split<;>omega
  have hL1:1≤(ds b).length:=by
   have:ds b≠[]:=fun hc=>by rw[Zdo]at hc;omega
   exact List.length_pos_iff.2 this
  by_cases hL:(ds b).length=1
  ·obtain⟨x,hx⟩:=Zan (l:=ds b) (k:=0) (by omega)
   have hbx:ds b=[x]:=by
    cases hq:ds b with
    |nil=>rw[hq]at hL;simp at hL
    |cons y l=>
     rw[hq]at hL hx
     simp at hL hx
     rw[hL,hx]
   have hxv:=Zbd b
   rw[hbx]at hxv
   simp[vI]at hxv
   have hxd:=(Zb9 b).get hx
   obtain⟨b1,b2,b3,b4,b5,z1,z2,z3,z4⟩:=Sl.at (show Sl h N v (dI (ds b)) from hv) (Zbf hx)
   simp at z4
   simp[A.b182,hc,hcn,lv,hL,z1,z3,z4]
   refine Zaa (Zmz (show Sl h N u (dI (ds a)) from hu) (Zb9 a) (by omega) (by omega) hxd.2) ?_
   rintro y h1 n1 k1 ⟨q,rfl,hq⟩
   rw[Zbd]at hq
   simp only[Zbd]
   have e1:(a:Int).toNat=a:=by omega
   have e2:x.toNat=b:=by omega
   rw[e1,e2]at hq
   rw[e1,e2]
   have hRb:=Yri a hb
   generalize hQ:a/b=Q at*
   generalize hR:a%b=R at*
   simp[splice]
   refine Zaa (Zfz (l:=[(R:Int)]) (Sl.row (e:=3) (rw:=true) (cp:=some 1) (Yrl n1) (by simp[dI]) rfl (fun k hk=>by simp at hk;omega)) (by simp)) ?_
   rintro y2 h2 n2 k2 hy2
   rw[Ygq (by omega)]at hy2
   have kk:=(Keeps.refl (h:=h1) (n:=n1)).new (.cells [.int .i64 (R:Int)] 3 true)
   simp[Ret]
   exact⟨(k1.trans kk).trans k2,q,y2,⟨rfl,rfl⟩,hq.keep (kk.trans k2),hy2⟩
  ·obtain⟨k,hk⟩:∃k,(ds b).length=k+2:=⟨(ds b).length-2,by omega⟩
   obtain⟨x,hx⟩:=Zan (l:=ds b) (k:=k+1) (by omega)
   have hxd:=(Zb9 b).get hx
   obtain⟨f,hf,f0,f1,hlen,y1,hy1,hy5⟩:=Yik (k:=k+1) (by omega) hx
   obtain⟨b1,b2,b3,b4,b5,z1,z2,z3,z4⟩:=Sl.at (show Sl h N v (dI (ds b)) from hv) (Zbf hx)
   have c1:((k:Int)+2-1)=(k:Int)+1:=by omega
   have c3:¬((k:Int)+2=1):=by omega
   have c4:((k:Int)+1).toNat=k+1:=by omega
   have w1:Zao .i64 (x+1)=x+1:=Zag (by omega) (by omega)
   have w2:(1000000000:Int).tdiv (x+1)=f:=by rw[hf];exact Yrk (by decide)
   have w3:Zao .i64 (f:Int)=f:=Zag (by omega) (by omega)
   have c6:¬x+1=0:=by omega
   rw[hk]at lv
   simp(disch:=omega) [A.b182,hc,hcn,lv,c1,c3,c4,z1,z3,z4,w1,w2,w3,splice]
   have k0:=(Keeps.refl (h:=h) (n:=N)).new (.cells [.int .i64 (f:Int)] 3 true)
   have hfr:Sl (h.set N (.cells [.int .i64 (f:Int)] 3 true)) (N+1) (.slice N 0 1 (some 1) 1) (dI [(f:Int)]):=Sl.row (e:=3) (rw:=true) (Yrl N) (by simp[dI]) rfl (fun k hk=>by simp at hk;omega)
   have dF:Di [(f:Int)]:=Di.one (by omega) (by omega)
   refine Zaa (Zsf (a:=b) (b:=f) (Sl.keep hv k0) hfr (Zb9 b) dF (Zbd b) (by simp[vI]) (by simp;omega)) ?_
   rintro vv h1 n1 k1 hvv
   have kle1:=k1.le
   have lvv:=hvv.len
   have hlen':(ds (b*f)).length=k+2:=by omega
   rw[Zas,hlen']at lvv
   simp[lvv]
   have k1a:=(Keeps.refl (h:=h1) (n:=n1)).new (.cells [] 3 true)
   refine Zaa (Zsf (a:=a) (b:=f) (((Sl.keep hu k0).keep k1).keep k1a) ((hfr.keep k1).keep k1a) (Zb9 a) dF (Zbd a) (by simp[vI]) (by simp;omega)) ?_
   rintro uu h2 n2 k2 huu
   have kle2:=k2.le
   have hne:ds (a*f)≠[]:=fun hc=>by
    rw[Zdo]at hc
    have:0<a*f:=Ytc (by omega) f0
    omega
   have hlaf:(ds (a*f)).length≤(ds a).length+1:=by
    apply Zfl
    have g1:=Zh8 (Zb9 a)
    rw[Zbd,Ygb]at g1
    have g2:a<1000000000^(ds a).length:=by exact_mod_cast g1
    rw[Yqx]
    exact Ysy g2 f1
   have hemp:=(k2.get n1 (by omega)).trans (show _=some (.cells [] 3 true) by simp)
   have hap:=Zrp (w:=[]) hemp huu hne (by omega)
   simp[hap]
   have hN2:N≤n2:=by omega
   have kk2:=(((k0.trans k1).trans k1a).trans k2)
   refine Zaj [(11,11),(63,71)] (fun e r st=>e=.exit 0∧PdI N h2 n2 (ds a).length ((a*f:Nat):Int) 0 r st) (PdI N h2 n2 (ds a).length ((a*f:Nat):Int)) ((ds a).length+1-(ds (a*f)).length) ?_ ?_ ?_
   ·refine⟨by simp,Keeps.refl.new _,_,ds (a*f),by simp;rfl,⟨fun q hq=>?_,.inr ⟨n2,by rw[Zdj],Yqg _,by show n2<n2+1;omega,by simp[Zkf]⟩⟩,by omega,Zbd _,Zb9 _⟩
    simp[Ze7]at hq
    obtain⟨q',_,rfl⟩:=hq
    rfl
   ·exact Yd0 (((Sl.keep hu k0).keep k1).keep k1a |>.keep k2) rfl (by omega) (by simp)
   ·rintro _ r ⟨H,n3,W⟩ hr ⟨rfl,hW,hK,u3,l,h11,ho,hm,hval,hdl⟩
    simp only at hW hK ho
    obtain⟨_,⟨h0,_⟩|⟨iu,hu3,i1,i2,i3⟩⟩:=ho
    ·simp[Ze7]at h0;rw[h0]at hm;simp at hm
    ·rw[Zdj]at hu3
     rw[Zkf]at i3
     subst hu3
     have hlu:l.length=(ds a).length+1:=by omega
     have hka:k+2<l.length:=by omega
     obtain⟨S,hS⟩:∃S,S=l.length-(k+2):=⟨_,rfl⟩
     have cS:((l.length:Int)-((k:Int)+2))=(S:Int):=by omega
     have oN:=Zgw hN2 hW
     have kH:=hK.new (.cells (dI (List.replicate S 0)) 3 true)
     have nle:=hK.le
     have mz:(Zeh [.int .i64 0] S:List V)=dI (List.replicate S 0):=Zpi
     simp(disch:=first|(simp;done)|omega|rfl) [hr,h11,cS,mz]
     have hvY:=Dn.keep hvv (k1a.trans k2)
     have hval':vI l=(a*f:Nat):=hval
     refine Zaj [(13,21),(82,191)] (fun e r st=>e=.exit 2∧OuI N h2 n2 iu n3 (n3+1) l.length (k+2) ((a*f:Nat):Int) (ds (b*f)) 0 r st) (OuI N h2 n2 iu n3 (n3+1) l.length (k+2) ((a*f:Nat):Int) (ds (b*f))) S ?_ ?_ ?_
     ·refine⟨l,List.replicate S 0,⟨oN,kH,rfl,?_,by simp⟩,by simp,rfl,by simp[hS],by omega,hdl,Di.zeros _,fun s h1 h2=>by omega,?_,fun s hs=>by simp[hs],by rw[Zop,hval];simp⟩
      ·rw[T.get_set,Yqe (by omega)];exact i3
      ·obtain⟨x',hx',x0,x1,lo,hi⟩:=Zmy (b:=b) (k:=k+1) (by omega)
       have g1:=Zh8 (Zb9 a)
       rw[Zbd,show (ds a).length=S+(k+1) by omega,Zui]at g1
       have g2:=Zi4 l S (by omega)
       have g3:=Zh7 (hdl.take S)
       have g4:pI (k+1)*1≤pI (k+1)*x':=Yqt (by omega) (Yr8 (Zjk _))
       have g5:pI S*pI (k+1)≤pI S*b:=Yqt (by omega) (Yr8 (Zjk _))
       have g6:(a:Int)*f<pI S*b*f:=Int.mul_lt_mul_of_pos_right (by omega) (by omega)
       rw[Zbd]
       apply Ytu
       intro hc
       have g7:pI S*((b*f:Nat):Int)≤pI S*vI (l.drop S):=Yqt hc (Yr8 (Zjk _))
       have g8:pI S*((b*f:Nat):Int)=pI S*b*f:=by push_cast;grind
       have g9:((a*f:Nat):Int)=(a:Int)*f:=by push_cast;rfl
       omega
     ·exact Yd2 hvY hlen' (Zb9 _) hy1 hy5 hka (by omega) (by simp[hr]) (by simp[hr]) (by simp[h11]) (by simp[hS]) hN2 i1 i2 (Yrl n3)
     ·rintro _ r4 ⟨H4,n4,W4⟩ hr4 ⟨rfl,U,Q,⟨hW4,hK4,hn4,ru4,rq4⟩,r13,hUl,hQl,_,dU,dQ,hz,hdr,_,hfin⟩
      simp only at hW4 hK4 hn4 ru4 rq4
      subst hn4
      rw[Ys2]at hdr
      rw[Zbd]at hdr hfin
      obtain⟨qn,hqn⟩:=Ysd (Zh7 dQ)
      obtain⟨un,hun⟩:=Ysd (Zh7 dU)
      rw[hqn,hun]at hfin
      rw[hun]at hdr
      have hfn:un+b*f*qn=a*f:=by exact_mod_cast hfin
      have hdn:un<b*f:=by exact_mod_cast hdr
      have m1:a/b=qn:=by
       have:a*f/(b*f)=qn:=by
        rw[←hfn,Nat.add_mul_div_left _ _ (by omega),Ysi hdn,Yst]
       rw[←this,Yt5 _ _ f0]
      have m2:un/f=a%b:=by
       have:a*f%(b*f)=un:=by rw[←hfn,Nat.add_mul_mod_self_left,Yr2 hdn]
       rw[←this,Ytp,Nat.mul_div_cancel _ f0]
      have hsU:Sl H4 (n3+1) (.slice iu 0 l.length none 1) (dI U):=Sl.row (by omega) ru4 (by simp[hUl]) (fun k hk=>by cases hk)
      have hsQ:Sl H4 (n3+1) (.slice n3 0 S (some S) 1) (dI Q):=Sl.row (by omega) rq4 (by simp[hQl,hS]) (fun k hk=>by simp at hk;omega)
      obtain⟨v',e1,e2⟩:=Zje (w:=[]) hsU (lo:=0) (hi:=k+2) (by omega) (by rw[Zas];omega) none (some (.int .i64 ((k+2:Nat):Int))) (.inr ⟨rfl,rfl⟩) (.inl rfl)
      have e3:((dI U).take (k+2)).drop 0=dI (U.take (k+2)):=by rw[Ys2,dI,←List.map_take];rfl
      rw[e3]at e2
      have ck:((k+2:Nat):Int)=(k:Int)+2:=by omega
      rw[ck]at e1
      have frow:=(hK4.get N (by omega)).trans ((k2.get N (by omega)).trans ((show _=h1.get N by simp;omega).trans ((k1.get N (by omega)).trans (show _=some (.cells [.int .i64 (f:Int)] 3 true) by simp))))
      have hdU2:vI (U.take (k+2))=un:=by
       rw[←hun]
       exact(Zgn (fun t h1 h2=>hz t (by omega) (by omega))).symm
      simp[hr,hr4,h11,Zea,evOpt,e1]
      refine Zaa (Zfz e2 (by simp;omega)) ?_
      rintro y5 h5 n5 k5 hy5'
      rw[Zfu (dU.take _) hdU2]at hy5'
      have kle5:=k5.le
      have frow5:=(k5.get N (by omega)).trans frow
      have lt5:N<n5:=by omega
      have lt4:iu<n3+1:=by omega
      have lenun:(ds un).length<1099511627776:=by
       have:(ds un).length≤(ds (b*f)).length:=Zcn (by omega)
       omega
      simp[hr,hr4,frow5]
      refine Zaa (Zmz (d:=(f:Int)) hy5' (Zb9 un) lenun (by omega) (by omega)) ?_
      rintro y6 h6 n6 k6 ⟨q6,rfl,hq6⟩
      have t1:(vI (ds un)).toNat=un:=by rw[Zbd];omega
      have t2:((f:Nat):Int).toNat=f:=by omega
      rw[t1,t2]at hq6
      rw[m2]at hq6
      generalize ((vI (ds un)).toNat%(f:Int).toNat)=ZZ
      simp[hr4,lt5]
      refine Zaa (Zfz ((hsQ.keep k5).keep k6) (by omega)) ?_
      rintro y7 h7 n7 k7 hy7
      rw[Zfu dQ hqn]at hy7
      have oN4:Zac N W4=[]:=hW4
      have kall:=(((kk2.trans hK4).trans k5).trans k6).trans k7
      simp[Ret,oN4]
      refine⟨kall,y7,q6,⟨rfl,rfl⟩,?_,?_⟩
      ·rw[m1];exact hy7
      ·exact Sl.keep hq6 k7
variable {s:Str}
def A.w117:=A.q Tryz.f117
def A.lb117_0:=A.ql A.w117 0 []
def A.b117:=(fun x0=>A.qb A.w117 [x0]) A.lb117_0
def A.k117:=@A.kk 117 19 [.tmp 4] A.b117 (by kernel_rfl) rfl
def A.w180:=A.q Tryz.f180
def A.lb180_0:=A.ql A.w180 0 []
def A.b180:=(fun x0=>A.qb A.w180 [x0]) A.lb180_0
def A.k180:=@A.kk 180 40 [.cell 2 (some 2)] A.b180 (by kernel_rfl) rfl
def Zj0{h:T O}{N:Nat}{u v:V}{a b:Nat}(hu:Dn h N u a)(hv:Dn h N v b)(hl:(ds a).length<1000000000000)(hl2:(ds b).length<1000000000000):Fn A.C 117 [u,v] h N (fun x h' n'=>Dn h' n' x (Nat.gcd a b)):=by
 intro w
 rw[Zab,A.k117 (by simp)]
 simp[A.b117]
 refine Zaj [(0,1),(5,17)] (fun e r st=>e=.exit 0∧Zac N st.w=[]∧Keeps h N st.h st.n∧∃x,r.get 0=some x∧Dn st.h st.n x (Nat.gcd a b)) (fun m r st=>Zac N st.w=[]∧Keeps h N st.h st.n∧∃x y c,r.get 0=some x∧r.get 1=some y∧Dn st.h st.n x c∧Dn st.h st.n y m∧Nat.gcd c m=Nat.gcd a b∧(ds c).length<1000000000000∧(ds m).length<1000000000000) b ?_ ?_ ?_
 ·exact⟨by simp,Keeps.refl,u,v,a,by simp,by simp,hu,hv,rfl,hl,hl2⟩
 ·rintro m r ⟨H,n1,W⟩ hr hf ⟨hW,hK,x,y,c,h0,h1,hx,hy,hg,l1,l2⟩
  simp only at hW hK hx hy
  have ly:=hy.len
  rw[Zas]at ly
  rw[Zai]
  by_cases hm:m=0
  ·subst hm
   have z0:(ds 0).length=0:=by rw[Zch];rfl
   rw[z0]at ly
   simp at hg
   simp[A.lb117_0,hf,h0,h1,ly,hW,hK]
   rw[←hg];exact hx
  ·have hne:(ds m).length≠0:=fun hc=>hm (Zdo.1 (Yqw hc))
   have p1:(0:Int)<((ds m).length:Int):=by omega
   have p2:0<(ds m).length:=by omega
   have p3:ds m≠[]:=fun hc=>hne (by rw[hc];rfl)
   simp[A.lb117_0,h0,h1,ly,p2]
   refine Zaa (Zl7 hx hy (by omega) l1 l2) ?_
   rintro z h3 n3 k3 ⟨q,r',rfl,hq,hr'⟩
   simp[hf,h1,hW]
   refine⟨c%m,Yri _ (by omega),hK.trans k3,m,hy.keep k3,hr',?_,l2,?_⟩
   ·rw[←hg,Nat.gcd_comm c m,Nat.gcd_rec m c,Nat.gcd_comm]
   ·have:=Zcn (a:=c%m) (b:=m) (Nat.le_of_lt (Yri _ (by omega)));omega
 ·rintro _ r ⟨H,n1,W⟩ hr ⟨rfl,hW,hK,x,h0,hx⟩
  simp only at hW hK hx
  simp[h0,Ret,hW,hK]
  exact hx
def Zup(x:Str):∀(y:Str),numV (x++y)=numV x*10^y.length+numV y:=by
 have key:∀(y:Str) (n:Nat),y.foldl (fun n (c:UInt8)=>10*n+(c.toNat-48)) n=n*10^y.length+y.foldl (fun n (c:UInt8)=>10*n+(c.toNat-48)) 0:=by
  intro y
  induction y with
  |nil=>simp
  |cons c y ih=>
   intro n
   rw[List.foldl_cons,List.foldl_cons,ih,ih (10*0+(c.toNat-48)),Yqd,Yqx]
   grind
 intro y
 unfold numV
 rw[List.foldl_append,key]
def Zrq(h:Zb8 s=true)(k:Nat):Zb8 (s.take k)=true:=by
 unfold Zb8 at*
 rw[Yrs]at*
 exact fun c hc=>h c (Ysg hc)
def Zj5(h:Zb8 s=true)(k:Nat):Zb8 (s.drop k)=true:=by
 unfold Zb8 at*
 rw[Yrs]at*
 exact fun c hc=>h c (List.mem_of_mem_drop hc)
def PsI(h0:T O)(N:Nat)(s:Str)(m:Nat)(r:T V)(st:St):Prop:=Zac N st.w=[]∧Keeps h0 N st.h st.n∧∃cur w l,r.get 0=some (.str cur)∧cur.length=m∧1≤m∧m≤s.length∧Zb8 cur=true∧r.get 4=some w∧Own 1 3 N st.h st.n w (Ze7 l)∧Di l∧l.length+m≤s.length∧vI l+pI l.length*(numV cur:Nat)=(numV s:Nat)
def Zlj(hd:Zb8 s=true)(h1:1≤s.length)(h2:s.length≤3000000000){h:T O}{N:Nat}:Fn A.C 180 [.str s] h N (fun v h' n'=>Rg h' n' v (numV s:Nat)):=by
 intro w
 obtain⟨c,hc⟩:=Zan (l:=s) (k:=0) (by omega)
 have hcd:=Zj4 hd hc
 have hc0:s.head?=some c:=by cases s with
  |nil=>simp at hc
  |cons=>simpa using hc
 have a1:¬u8I c=45:=by omega
 have a2:(0:Int)<(s.length:Int):=by omega
 have a3:0<s.length:=by omega
 have hne:s≠[]:=fun h=>by rw[h]at h1;simp at h1
 rw[Zab,A.k180 (by simp)]
 simp(disch:=first|(simp;done)|omega|rfl) [-getElem?_pos,A.b180,a1,a3,hc]
 refine Zaj [(0,0),(4,4),(16,32)] (fun e r st=>e=.exit 0∧∃m,m≤9∧PsI (h.set N (.cells [.bool false,.nilslice] 144 true)) (N+1) s m r st) (PsI (h.set N (.cells [.bool false,.nilslice] 144 true)) (N+1) s) s.length ?_ ?_ ?_
 ·exact⟨by simp,Keeps.refl,s,.nilslice,[],by simp,rfl,h1,Yqg _,hd,by simp,Own.nil,Di.nil,by simp,by simp[vI,pI]⟩
 ·rintro m r ⟨H,n1,W⟩ hr hf ⟨hW,hK,cur,u,l,g0,hcl,m1,m2,hcd,g4,ho,hdi,hll,hv⟩
  simp only at hW hK ho
  subst hcl
  rw[Zai]
  by_cases h9:9<cur.length
  ·have h9':(9:Int)<(cur.length:Int):=by omega
   have nle:=hK.le
   have hvd:=Zi2 (s:=cur.drop (cur.length-9)) (st:=⟨H,n1,W⟩) (Zj5 hcd _) (by simp;omega)
   have hcn:((cur.length:Int)-9).toNat=cur.length-9:=by omega
   have hnv:=Zd4 (Zj5 hcd (cur.length-9))
   have hdl:(cur.drop (cur.length-9)).length=9:=by simp;omega
   rw[hdl]at hnv
   have hsp:=Zup (cur.take (cur.length-9)) (cur.drop (cur.length-9))
   rw[Yr0,hdl,show (10:Nat)^9=1000000000 by decide]at hsp
   generalize hD:numV (cur.drop (cur.length-9))=D at*
   obtain⟨v',h',w',e1,e2,e3,e4,e5⟩:=Zbw (x:=[.int .i64 (D:Int)]) (u:=.slice n1 0 1 (some 1) 1) (bytes:=8) (w:=W) (ho.keep (Keeps.refl.new (.cells [.int .i64 (D:Int)] 3 true))) (by omega) (by decide) rfl (by simp[Zbc,St.row,slc]) (by rw[Zdj];omega)
   rw[←Zdb]at e5
   simp(disch:=first|(simp;done)|omega|rfl) [A.lb180_0,hf,g0,g4,h9',hcn,evOpt,hvd,splice,e1]
   refine⟨cur.length-9,by omega,⟨by rw[e2];exact hW,(hK.new _).then e3,cur.take (cur.length-9),v',l++[(D:Int)],by simp,by simp,by omega,by omega,Zrq hcd _,by simp,e5,hdi.app (Di.one (by omega) (by omega)),by simp;omega,?_⟩⟩
   rw[Zfs,Yqr,Yrw,Zc1,←hv]
   have hsp':((numV cur:Nat):Int)=(numV (cur.take (cur.length-9)):Nat)*1000000000+D:=by omega
   rw[hsp']
   generalize ((numV (cur.take (cur.length-9)):Nat):Int)=X
   generalize pI l.length=P
   grind
  ·have h9':¬(9:Int)<(cur.length:Int):=by omega
   simp[A.lb180_0,hf,g0,h9']
   exact⟨cur.length,by omega,hW,hK,cur,u,l,by simp[g0],rfl,m1,m2,hcd,by simp[g4],ho,hdi,hll,hv⟩
 ·rintro _ r ⟨H,n1,W⟩ hr ⟨rfl,m,m9,hW,hK,cur,u,l,g0,hcl,m1,m2,hcd,g4,ho,hdi,hll,hv⟩
  simp only at hW hK ho
  subst hcl
  have nle:=hK.le
  have hvd:=Zi2 (s:=cur) (st:=⟨H,n1,W⟩) hcd (by omega)
  have hnv:=Zd4 hcd
  have hp9:=Zuk m9
  generalize hD:numV cur=D at*
  obtain⟨v',h',w',e1,e2,e3,e4,e5⟩:=Zbw (x:=[.int .i64 (D:Int)]) (u:=.slice n1 0 1 (some 1) 1) (bytes:=8) (w:=W) (ho.keep (Keeps.refl.new (.cells [.int .i64 (D:Int)] 3 true))) (by omega) (by decide) rfl (by simp[Zbc,St.row,slc]) (by rw[Zdj];omega)
  rw[←Zdb]at e5
  simp[hr,g0,g4,hvd,splice,e1]
  have hdi2:Di (l++[(D:Int)]):=hdi.app (Di.one (by omega) (by omega))
  refine Zaa (Zby (n:=numV s) e5.sl hdi2 (by rw[Zfs];exact hv) (by simp;omega)) ?_
  rintro y h5 n5 k5 hy
  have kk:=((hK.new (.cells [.int .i64 (D:Int)] 3 true)).then e3).trans k5
  have kle:=kk.le
  have nrow:=kk.get N (by omega)
  simp at nrow
  obtain⟨u5,rfl,hu5⟩:=hy
  have hu6:=fun c1 (hc:c1.length=2)=>Sl.setInt (i:=N) (c1:=c1) (e1:=144) (w1:=true) hu5 nrow (by intro x hx k m;simp at hx;rcases hx with rfl|rfl<;>simp) hc
  have huo:=Sl.form hu5 |>.one
  unfold V.one at huo
  have ow:Zac N w'=[]:=Zgw (Ytb N) (by rw[e2];exact hW)
  have k0:=(Keeps.refl (h:=h) (n:=N)).new (.cells [.bool false,.nilslice] 144 true)
  simp[hr,nrow,splice,Zal,huo,Zah,slc,Ret,ow]
  exact⟨(k0.trans kk).set (Yqg N),u5,by simp,by simpa[Dn]using hu6 _ rfl⟩
variable {s:Str}
def A.b116:=A.q Tryz.f116
def A.k116:=@A.kk 116 25 [.cell 2 (some 2),.cell 3 (some 2)] A.b116 (by kernel_rfl) rfl
def A.b46:=A.q Tryz.f46
def A.k46:=@A.kk 46 96 [.tmp 2] A.b46 (by kernel_rfl) rfl
def Zp9(hk:slashAt s<s.length)(hp:Zb8 (s.take (slashAt s))=true)(hd:Zb8 (s.drop (slashAt s+1))=true)(p1:1≤(s.take (slashAt s)).length)(d1:1≤(s.drop (slashAt s+1)).length)(hl:s.length≤100000){h:T O}{N:Nat}:Fn A.C 116 [.str s] h N (fun v h' n'=>∃x y,v=.tup [.agg [.bool false,x],.agg [.bool false,y]]∧Dn h' n' x (numV (s.take (slashAt s)))∧Dn h' n' y (numV (s.drop (slashAt s+1)))):=by
 intro w
 rw[Zab,A.k116 (by simp)]
 have hsl:=fun st=>Ze3 (s:=s) (st:=st) (by omega)
 have c1:¬((slashAt s:Int)=(s.length:Int)):=by omega
 have c2:¬(slashAt s=s.length):=by omega
 have c3:(slashAt s:Int)≤(s.length:Int):=by omega
 have c4:(slashAt s:Int)+1≤(s.length:Int):=by omega
 have c5:((slashAt s:Int)+1).toNat=slashAt s+1:=by omega
 simp[A.b116,hsl,c1,c3,evOpt]
 refine Zaa (Zlj hp p1 (by simp;omega)) ?_
 rintro v1 h1 n1 k1 ⟨x,rfl,hx⟩
 have nx:¬((numV (s.take (slashAt s)):Nat):Int)<0:=by omega
 simp(disch:=omega) [c5,evOpt,nx]
 refine Zaa (Zlj hd d1 (by simp;omega)) ?_
 rintro v2 h2 n2 k2 ⟨y,rfl,hy⟩
 have ny:¬((numV (s.drop (slashAt s+1)):Nat):Int)<0:=by omega
 have kle1:=k1.le
 have kle2:=k2.le
 have hx:=Dn.keep hx k2
 have r0:=(k2.get N (by omega)).trans (k1.get N (by omega))
 have r1:=(k2.get (N+1) (by omega)).trans (k1.get (N+1) (by omega))
 simp at r0 r1
 have nint:∀u∈([.bool false,.nilslice]:List V),∀k n,u≠V.int k n:=by intro u hu k n;simp at hu;rcases hu with rfl|rfl<;>simp
 have hxo:=(Sl.form hx).one
 have hyo:=(Sl.form hy).one
 unfold V.one at hxo hyo
 have d1':N<n1:=by omega
 have d2':N<n2:=by omega
 have d3':N+1<n2:=by omega
 have d4':¬N+1=N:=by omega
 simp[r0,r1,ny,splice,Zal,hxo,hyo,d1',d2',d3',Zah,slc,Zam.chk,Ret]
 have hx1:=Sl.setInt (i:=N) (c1:=[.bool false,x]) (e1:=144) (w1:=true) hx r0 nint rfl
 have hy1:=Sl.setInt (i:=N) (c1:=[.bool false,x]) (e1:=144) (w1:=true) hy r0 nint rfl
 have r1':(h2.set N (.cells [.bool false,x] 144 true)).get (N+1)=some (.cells [.bool false,.nilslice] 144 true):=by rw[T.get_set,Yqe (by omega)];exact r1
 have hx2:=Sl.setInt (i:=N+1) (c1:=[.bool false,y]) (e1:=144) (w1:=true) hx1 r1' nint rfl
 have hy2:=Sl.setInt (i:=N+1) (c1:=[.bool false,y]) (e1:=144) (w1:=true) hy1 r1' nint rfl
 have k0:=((Keeps.refl (h:=h) (n:=N)).new (.cells [.bool false,.nilslice] 144 true)).new (.cells [.bool false,.nilslice] 144 true)
 exact⟨(((k0.trans k1).trans k2).set (Yqg N)).set (by omega),x,y,⟨rfl,rfl⟩,hx2,hy2⟩
def Zhl{s:Str}(h:Zcu s=true):Zb8 s=true∧1≤s.length:=by
 cases s with
 |nil=>cases h
 |cons c s=>
  unfold Zcu at h
  rw[Yq1]at h
  exact⟨h.1,by simp⟩
def Ymu:ds 1=[1]:=by rw[Zg5 (by decide),Zch];rfl
def Zuo(h:Zb8 s=true)(hl:s.length≤100000):(ds (numV s)).length<1000000000000:=by
 have h1:=Zd4 h
 have h2:(10:Nat)^s.length≤1000000000^s.length:=Ys9 (by decide) _
 have:=Zfl (n:=numV s) (k:=s.length) (by omega)
 omega
def Zwb{s:Str}(hl:s.length<9223372036854775808){h:T O}{N:Nat}:Fn A.C 46 [.str s] h N (fun v _ _=>v=.int .i64 (chkNum s:Nat)):=by
 intro w
 rw[Zab,A.k46 (by simp)]
 cases s with
 |nil=>
  have hsl:=fun st=>Ze3 (s:=[]) (st:=st) (by simp)
  have hdec:=fun st=>Zfm (s:=[]) (st:=st) (by simp)
  simp(disch:=first|(simp;done)|omega|(simp only[Zad,Zae,Yqd];omega)|rfl) [-getElem?_pos,A.b46,hsl,slashAt,evOpt,hdec,Zcu,Ret]
  exact⟨Keeps.refl,rfl⟩
 |cons c t=>
  by_cases h45:u8I c=45
  ·have hneg:chkNum (c::t)=Zj9 true (t.take (slashAt t)) (decide (slashAt t<t.length)) (t.drop (slashAt t+1)):=by
    have:c.toNat=45:=by unfold u8I at h45;omega
    simp[chkNum,Ykv,negS,Zar,this]
   rw[hneg]
   have hfirst:(0:Int)<(t.length:Int)+1:=by omega
   have hone:∀st:St,Zb4 st (some (.str (c::t))) (some (some (.int .i64 1))) (some none)=some (.str t,st):=fun st=>by rw[Zcj (by omega) (by simp only[Yqd];omega)];rfl
   have hsl:=fun st=>Ze3 (s:=t) (st:=st) (by simp at hl;omega)
   have hdec:=fun st=>Zfm (s:=t.take (slashAt t)) (st:=st) (by simp at hl ⊢;omega)
   have hlk:(slashAt t:Int)≤(t.length:Int):=by have:=Zda t;omega
   have hlk2:slashAt t≤t.length:=Zda t
   have hpl:(t.take (slashAt t)).length=slashAt t:=by simp;omega
   have hdl:(t.drop (slashAt t+1)).length=t.length-(slashAt t+1):=by simp
   have hhead:=h45
   have hc0:=h45
   have hbt:=h45
   simp at hl
   generalize hp:t.take (slashAt t)=p at*
   generalize hdq:t.drop (slashAt t+1)=d at*
   by_cases hA:Zcu p=true
   ·by_cases hz:p=[48]
    ·have e1:(p==[48])=true:=by simp[hz]
     simp(disch:=first|(simp;done)|omega|(simp only[Zad,Zae,Yqd];omega)|rfl) [-getElem?_pos,A.b46,hfirst,hone,hsl,hdec,hlk,hlk2,hp,hdq,evOpt,Zak,hhead,hc0,hbt,hA,e1,Ret]
     exact⟨Keeps.refl,by simp[Zj9,Zcb,hz]⟩
    ·have e1:(p==[48])=false:=by simp[hz]
     by_cases hbr:slashAt t<t.length
     ·have hbr':(slashAt t:Int)<(t.length:Int):=by omega
      have hdd:=fun st=>Zfm (s:=d) (st:=st) (by omega)
      by_cases hD:Zcu d=true
      ·by_cases h48:d=[48]
       ·have e8:(d==[48])=true:=by simp[h48]
        simp(disch:=first|(simp;done)|omega|(simp only[Zad,Zae,Yqd];omega)|rfl) [-getElem?_pos,A.b46,hfirst,hone,hsl,hdec,hlk,hlk2,hp,hdq,evOpt,Zak,hhead,hc0,hbt,hA,e1,hbr,hbr',hdd,hD,e8,Ret]
        exact⟨Keeps.refl,by simp[Zj9,Zcb,h48]⟩
       ·have e8:(d==[48])=false:=by simp[h48]
        by_cases h49:d=[49]
        ·have e9:(d==[49])=true:=by simp[h49]
         simp(disch:=first|(simp;done)|omega|(simp only[Zad,Zae,Yqd];omega)|rfl) [-getElem?_pos,A.b46,hfirst,hone,hsl,hdec,hlk,hlk2,hp,hdq,evOpt,Zak,hhead,hc0,hbt,hA,e1,hbr,hbr',hdd,hD,e8,e9,Ret]
         exact⟨Keeps.refl,by simp[Zj9,Zcb,h49]⟩
        ·have e9:(d==[49])=false:=by simp[h49]
         have hform:Zcb true p true d=true:=by simp[Zcb,hA,hD,h48,h49,hz]
         by_cases b6:600<p.length
         ·have b6':(600:Int)<(slashAt t:Int):=by omega
          simp(disch:=first|(simp;done)|omega|(simp only[Zad,Zae,Yqd];omega)|rfl) [-getElem?_pos,A.b46,hfirst,hone,hsl,hdec,hlk,hlk2,hp,hdq,evOpt,Zak,hhead,hc0,hbt,hA,e1,hbr,hbr',hdd,hD,e8,e9,b6',Ret]
          exact⟨Keeps.refl,by simp[Zj9,hform,b6]⟩
         ·have b6':¬(600:Int)<(slashAt t:Int):=by omega
          by_cases b7:600<d.length
          ·have b7':(600:Int)<(t.length:Int)-(slashAt t:Int)-1:=by omega
           simp(disch:=first|(simp;done)|omega|(simp only[Zad,Zae,Yqd];omega)|rfl) [-getElem?_pos,A.b46,hfirst,hone,hsl,hdec,hlk,hlk2,hp,hdq,evOpt,Zak,hhead,hc0,hbt,hA,e1,hbr,hbr',hdd,hD,e8,e9,b6',b7',Ret]
           exact⟨Keeps.refl,by simp[Zj9,hform,b6,b7]⟩
          ·have b7':¬(600:Int)<(t.length:Int)-(slashAt t:Int)-1:=by omega
           obtain⟨pa,pb⟩:=Zhl hA
           obtain⟨da,db⟩:=Zhl hD
           simp(disch:=first|(simp;done)|omega|(simp only[Zad,Zae,Yqd];omega)|rfl) [-getElem?_pos,A.b46,hfirst,hone,hsl,hdec,hlk,hlk2,hp,hdq,evOpt,Zak,hhead,hc0,hbt,hA,e1,hbr,hbr',hdd,hD,e8,e9,b6',b7']
           refine Zaa (Zp9 hbr (by rw[hp];exact pa) (by rw[hdq];exact da) (by rw[hp];exact pb) (by rw[hdq];exact db) (by omega)) ?_
           rintro v1 h1 n1 k1 ⟨x,y,rfl,hx,hy⟩
           rw[hp]at hx
           rw[hdq]at hy
           have hxo:=(Sl.form hx).one
           have hyo:=(Sl.form hy).one
           unfold V.one at hxo hyo
           have kx:=((((Keeps.refl (h:=h1) (n:=n1)).new (.cells [.bool false,.nilslice] 144 true)).new (.cells [.bool false,.nilslice] 144 true)).set (i:=n1) (o:=.cells [.bool false,x] 144 true) (Yqg n1)).set (i:=n1+1) (o:=.cells [.bool false,y] 144 true) (by omega)
           simp(disch:=first|(simp;done)|omega|(simp only[Zad,Zae,Yqd];omega)|rfl) [-getElem?_pos,splice,Zal,hxo,hyo]
           refine Zaa (Zj0 (hx.keep kx) (hy.keep kx) (Zuo pa (by omega)) (Zuo da (by omega))) ?_
           rintro z h2 n2 k2 hz2
           have kk:=(k1.trans kx).trans k2
           have lz:=hz2.len
           rw[Zas]at lz
           have wok:¬n1<N:=by have:=k1.le;omega
           have wok2:¬n1+1<N:=by have:=k1.le;omega
           generalize hG:Nat.gcd (numV p) (numV d)=G at*
           by_cases g1:G=1
           ·subst g1
            rw[Ymu]at lz
            obtain⟨b1,b2,b3,b4,b5,z1,z2,z3,z4⟩:=Sl.at (show Sl h2 n2 z (dI [1]) from Ymu▸hz2) (j:=0) (x:=.int .i64 1) rfl
            simp at z4
            simp(disch:=first|(simp;done)|omega|(simp only[Zad,Zae,Yqd];omega)|rfl) [-getElem?_pos,lz,z1,z3,z4,Zak,Ret,wok,wok2]
            exact⟨kk,by simp[Zj9,hform,b6,b7,hG]⟩
           ·have hres:Zj9 true p true d=1:=by simp[Zj9,hform,b6,b7,hG,g1]
            by_cases g2:(ds G).length=1
            ·obtain⟨gx,hgx⟩:=Zan (l:=ds G) (k:=0) (by omega)
             obtain⟨b1,b2,b3,b4,b5,z1,z2,z3,z4⟩:=Sl.at (show Sl h2 n2 z (dI (ds G)) from hz2) (Zbf hgx)
             simp at z4
             have gne:¬gx=1:=fun hc=>g1 (by
              have hv:=Zbd G
              rw[Zyn hgx,Yrr (by omega)]at hv
              simp[vI,pI]at hv
              omega)
             simp(disch:=first|(simp;done)|omega|(simp only[Zad,Zae,Yqd];omega)|rfl) [-getElem?_pos,lz,g2,z1,z3,z4,gne,Zak,Ret,wok,wok2,hres]
             exact kk
            ·have g2':¬((ds G).length:Int)=1:=by omega
             simp(disch:=first|(simp;done)|omega|(simp only[Zad,Zae,Yqd];omega)|rfl) [-getElem?_pos,lz,g2,g2',Zak,Ret,wok,wok2,hres]
             exact kk
      ·have hD:Zcu d=false:=by simpa using hD
       simp(disch:=first|(simp;done)|omega|(simp only[Zad,Zae,Yqd];omega)|rfl) [-getElem?_pos,A.b46,hfirst,hone,hsl,hdec,hlk,hlk2,hp,hdq,evOpt,Zak,hhead,hc0,hbt,hA,e1,hbr,hbr',hdd,hD,Ret]
       exact⟨Keeps.refl,by simp[Zj9,Zcb,hD]⟩
     ·have hbr2:slashAt t=t.length:=by omega
      have hbr':¬(slashAt t:Int)<(t.length:Int):=by omega
      have hform:Zcb true p false d=true:=by simp[Zcb,hA,hz]
      have dl0:¬600<d.length:=by omega
      have b7':¬(600:Int)<(t.length:Int)-(slashAt t:Int)-1:=by omega
      by_cases b6:600<p.length
      ·have b6':(600:Int)<(slashAt t:Int):=by omega
       simp(disch:=first|(simp;done)|omega|(simp only[Zad,Zae,Yqd];omega)|rfl) [-getElem?_pos,A.b46,hfirst,hone,hsl,hdec,hlk,hlk2,hp,hdq,evOpt,Zak,hhead,hc0,hbt,hA,e1,hbr,hbr',b6',Ret]
       exact⟨Keeps.refl,by simp[Zj9,hform,b6]⟩
      ·have b6':¬(600:Int)<(slashAt t:Int):=by omega
       simp(disch:=first|(simp;done)|omega|(simp only[Zad,Zae,Yqd];omega)|rfl) [-getElem?_pos,A.b46,hfirst,hone,hsl,hdec,hlk,hlk2,hp,hdq,evOpt,Zak,hhead,hc0,hbt,hA,e1,hbr,hbr',b6',b7',Ret]
       exact⟨Keeps.refl,by simp[Zj9,hform,b6,dl0]⟩
   ·have hA:Zcu p=false:=by simpa using hA
    simp(disch:=first|(simp;done)|omega|(simp only[Zad,Zae,Yqd];omega)|rfl) [-getElem?_pos,A.b46,hfirst,hone,hsl,hdec,hlk,hlk2,hp,hdq,evOpt,Zak,hhead,hc0,hbt,hA,Ret]
    exact⟨Keeps.refl,by simp[Zj9,Zcb,hA]⟩
  ·have hsn:negS (c::t)=false:=by
    simp only[negS,decide_eq_false_iff_not];unfold u8I at h45;omega
   obtain⟨t,ht⟩:∃t',t'=c::t:=⟨c::t,rfl⟩
   rw[←ht]at hl hsn ⊢
   have hc0:t[0]?=some c:=by rw[ht];rfl
   have hhead:t.head?=some c:=by rw[ht];rfl
   have hlen:0<t.length:=by rw[ht];simp
   have hbt:t≠[]:=by rw[ht];simp
   have hlen':(0:Int)<(t.length:Int):=by omega
   have hfirst:0<t.length:=hlen
   have hone:True:=trivial
   clear ht
   have hneg:chkNum t=Zj9 false (t.take (slashAt t)) (decide (slashAt t<t.length)) (t.drop (slashAt t+1)):=by
    simp[chkNum,Ykv,Zar,hsn]
   rw[hneg]
   have hsl:=fun st=>Ze3 (s:=t) (st:=st) (by omega)
   have hdec:=fun st=>Zfm (s:=t.take (slashAt t)) (st:=st) (by simp;omega)
   have hlk:(slashAt t:Int)≤(t.length:Int):=by have:=Zda t;omega
   have hlk2:slashAt t≤t.length:=Zda t
   have hpl:(t.take (slashAt t)).length=slashAt t:=by simp;omega
   have hdl:(t.drop (slashAt t+1)).length=t.length-(slashAt t+1):=by simp
   generalize hp:t.take (slashAt t)=p at*
   generalize hdq:t.drop (slashAt t+1)=d at*
   by_cases hA:Zcu p=true
   ·have e1:True:=trivial
    by_cases hbr:slashAt t<t.length
    ·have hbr':(slashAt t:Int)<(t.length:Int):=by omega
     have hdd:=fun st=>Zfm (s:=d) (st:=st) (by omega)
     by_cases hD:Zcu d=true
     ·by_cases h48:d=[48]
      ·have e8:(d==[48])=true:=by simp[h48]
       simp(disch:=first|(simp;done)|omega|(simp only[Zad,Zae,Yqd];omega)|rfl) [-getElem?_pos,A.b46,hfirst,hone,hsl,hdec,hlk,hlk2,hp,hdq,evOpt,Zak,hhead,hc0,hbt,h45,hlen',hA,e1,hbr,hbr',hdd,hD,e8,Ret]
       exact⟨Keeps.refl,by simp[Zj9,Zcb,h48]⟩
      ·have e8:(d==[48])=false:=by simp[h48]
       by_cases h49:d=[49]
       ·have e9:(d==[49])=true:=by simp[h49]
        simp(disch:=first|(simp;done)|omega|(simp only[Zad,Zae,Yqd];omega)|rfl) [-getElem?_pos,A.b46,hfirst,hone,hsl,hdec,hlk,hlk2,hp,hdq,evOpt,Zak,hhead,hc0,hbt,h45,hlen',hA,e1,hbr,hbr',hdd,hD,e8,e9,Ret]
        exact⟨Keeps.refl,by simp[Zj9,Zcb,h49]⟩
       ·have e9:(d==[49])=false:=by simp[h49]
        have hform:Zcb false p true d=true:=by simp[Zcb,hA,hD,h48,h49]
        by_cases b6:600<p.length
        ·have b6':(600:Int)<(slashAt t:Int):=by omega
         simp(disch:=first|(simp;done)|omega|(simp only[Zad,Zae,Yqd];omega)|rfl) [-getElem?_pos,A.b46,hfirst,hone,hsl,hdec,hlk,hlk2,hp,hdq,evOpt,Zak,hhead,hc0,hbt,h45,hlen',hA,e1,hbr,hbr',hdd,hD,e8,e9,b6',Ret]
         exact⟨Keeps.refl,by simp[Zj9,hform,b6]⟩
        ·have b6':¬(600:Int)<(slashAt t:Int):=by omega
         by_cases b7:600<d.length
         ·have b7':(600:Int)<(t.length:Int)-(slashAt t:Int)-1:=by omega
          simp(disch:=first|(simp;done)|omega|(simp only[Zad,Zae,Yqd];omega)|rfl) [-getElem?_pos,A.b46,hfirst,hone,hsl,hdec,hlk,hlk2,hp,hdq,evOpt,Zak,hhead,hc0,hbt,h45,hlen',hA,e1,hbr,hbr',hdd,hD,e8,e9,b6',b7',Ret]
          exact⟨Keeps.refl,by simp[Zj9,hform,b6,b7]⟩
         ·have b7':¬(600:Int)<(t.length:Int)-(slashAt t:Int)-1:=by omega
          obtain⟨pa,pb⟩:=Zhl hA
          obtain⟨da,db⟩:=Zhl hD
          simp(disch:=first|(simp;done)|omega|(simp only[Zad,Zae,Yqd];omega)|rfl) [-getElem?_pos,A.b46,hfirst,hone,hsl,hdec,hlk,hlk2,hp,hdq,evOpt,Zak,hhead,hc0,hbt,h45,hlen',hA,e1,hbr,hbr',hdd,hD,e8,e9,b6',b7']
          refine Zaa (Zp9 hbr (by rw[hp];exact pa) (by rw[hdq];exact da) (by rw[hp];exact pb) (by rw[hdq];exact db) (by omega)) ?_
          rintro v1 h1 n1 k1 ⟨x,y,rfl,hx,hy⟩
          rw[hp]at hx
          rw[hdq]at hy
          have hxo:=(Sl.form hx).one
          have hyo:=(Sl.form hy).one
          unfold V.one at hxo hyo
          have kx:=((((Keeps.refl (h:=h1) (n:=n1)).new (.cells [.bool false,.nilslice] 144 true)).new (.cells [.bool false,.nilslice] 144 true)).set (i:=n1) (o:=.cells [.bool false,x] 144 true) (Yqg n1)).set (i:=n1+1) (o:=.cells [.bool false,y] 144 true) (by omega)
          simp(disch:=first|(simp;done)|omega|(simp only[Zad,Zae,Yqd];omega)|rfl) [-getElem?_pos,splice,Zal,hxo,hyo]
          refine Zaa (Zj0 (hx.keep kx) (hy.keep kx) (Zuo pa (by omega)) (Zuo da (by omega))) ?_
          rintro z h2 n2 k2 hz2
          have kk:=(k1.trans kx).trans k2
          have lz:=hz2.len
          rw[Zas]at lz
          have wok:¬n1<N:=by have:=k1.le;omega
          have wok2:¬n1+1<N:=by have:=k1.le;omega
          generalize hG:Nat.gcd (numV p) (numV d)=G at*
          by_cases g1:G=1
          ·subst g1
           rw[Ymu]at lz
           obtain⟨b1,b2,b3,b4,b5,z1,z2,z3,z4⟩:=Sl.at (show Sl h2 n2 z (dI [1]) from Ymu▸hz2) (j:=0) (x:=.int .i64 1) rfl
           simp at z4
           simp(disch:=first|(simp;done)|omega|(simp only[Zad,Zae,Yqd];omega)|rfl) [-getElem?_pos,lz,z1,z3,z4,Zak,Ret,wok,wok2]
           exact⟨kk,by simp[Zj9,hform,b6,b7,hG]⟩
          ·have hres:Zj9 false p true d=1:=by simp[Zj9,hform,b6,b7,hG,g1]
           by_cases g2:(ds G).length=1
           ·obtain⟨gx,hgx⟩:=Zan (l:=ds G) (k:=0) (by omega)
            obtain⟨b1,b2,b3,b4,b5,z1,z2,z3,z4⟩:=Sl.at (show Sl h2 n2 z (dI (ds G)) from hz2) (Zbf hgx)
            simp at z4
            have gne:¬gx=1:=fun hc=>g1 (by
             have hv:=Zbd G
             rw[Zyn hgx,Yrr (by omega)]at hv
             simp[vI,pI]at hv
             omega)
            simp(disch:=first|(simp;done)|omega|(simp only[Zad,Zae,Yqd];omega)|rfl) [-getElem?_pos,lz,g2,z1,z3,z4,gne,Zak,Ret,wok,wok2,hres]
            exact kk
           ·have g2':¬((ds G).length:Int)=1:=by omega
            simp(disch:=first|(simp;done)|omega|(simp only[Zad,Zae,Yqd];omega)|rfl) [-getElem?_pos,lz,g2,g2',Zak,Ret,wok,wok2,hres]
            exact kk
     ·have hD:Zcu d=false:=by simpa using hD
      simp(disch:=first|(simp;done)|omega|(simp only[Zad,Zae,Yqd];omega)|rfl) [-getElem?_pos,A.b46,hfirst,hone,hsl,hdec,hlk,hlk2,hp,hdq,evOpt,Zak,hhead,hc0,hbt,h45,hlen',hA,e1,hbr,hbr',hdd,hD,Ret]
      exact⟨Keeps.refl,by simp[Zj9,Zcb,hD]⟩
    ·have hbr2:slashAt t=t.length:=by omega
     have hbr':¬(slashAt t:Int)<(t.length:Int):=by omega
     have hform:Zcb false p false d=true:=by simp[Zcb,hA]
     have dl0:¬600<d.length:=by omega
     have b7':¬(600:Int)<(t.length:Int)-(slashAt t:Int)-1:=by omega
     by_cases b6:600<p.length
     ·have b6':(600:Int)<(slashAt t:Int):=by omega
      simp(disch:=first|(simp;done)|omega|(simp only[Zad,Zae,Yqd];omega)|rfl) [-getElem?_pos,A.b46,hfirst,hone,hsl,hdec,hlk,hlk2,hp,hdq,evOpt,Zak,hhead,hc0,hbt,h45,hlen',hA,e1,hbr,hbr',b6',Ret]
      exact⟨Keeps.refl,by simp[Zj9,hform,b6]⟩
     ·have b6':¬(600:Int)<(slashAt t:Int):=by omega
      simp(disch:=first|(simp;done)|omega|(simp only[Zad,Zae,Yqd];omega)|rfl) [-getElem?_pos,A.b46,hfirst,hone,hsl,hdec,hlk,hlk2,hp,hdq,evOpt,Zak,hhead,hc0,hbt,h45,hlen',hA,e1,hbr,hbr',b6',b7',Ret]
      exact⟨Keeps.refl,by simp[Zj9,hform,b6,dl0]⟩
   ·have hA:Zcu p=false:=by simpa using hA
    simp(disch:=first|(simp;done)|omega|(simp only[Zad,Zae,Yqd];omega)|rfl) [-getElem?_pos,A.b46,hfirst,hone,hsl,hdec,hlk,hlk2,hp,hdq,evOpt,Zak,hhead,hc0,hbt,h45,hlen',hA,Ret]
    exact⟨Keeps.refl,by simp[Zj9,Zcb,hA]⟩
def Yvj(hl:s.length≤100000){h:T O}{N:Nat}:Fn A.C 46 [.str s] h N (fun v _ _=>v=.int .i64 (chkNum s:Nat)):=Zwb (by omega)
end
end Go.Mx
