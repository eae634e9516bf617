/-lensletref01-/
import Derived.Test.YtalhlaaapkpkiaaGreatDoorRbG
set_option linter.all false
namespace Go.Mx
open Go Go.Proofs
set_option maxRecDepth 1000000
def Yjc{r:Nat}(h:r<1000000000):Zf1 [(r:Int)]=ds r:=Zf0 (Di.one (by omega) (by omega)) (by simp[vI])
def Zm3{h:T O}{N:Nat}{u v:V}{a b:Nat}(hu:Dn h N u a)(hv:Dn h N v b)(hb:0<b)(hl:(ds a).length<1000000000000)(hl2:(ds b).length<1000000000000):Fn A.C 94 [u,v] h N (fun x h' n'=>∃q r,x=.tup [q,r]∧Dn h' n' q (a/b)∧Dn h' n' r (a%b)):=by
 intro w
 have lu:=hu.len
 have lv:=hv.len
 rw[Zas]at lu lv
 rw[Zae,A.k94 (by simp)]
 by_cases hab:a<b
 ·have hc0:Yew a b= -1:=by simp[Yew,hab]
  have hc:=fun w=>Zu2 (w:=w) hu hv (by omega) (by omega)
  simp[A.b94,hc,hc0,Ret]
  refine⟨Keeps.refl,.nilslice,u,⟨rfl,rfl⟩,?_,?_⟩
  ·rw[Yvk hab];unfold Dn;rw[Zcn];exact Sl.nil
  ·rw[Yu7 hab];exact hu
 ·have hba:b≤a:=by omega
  have hlb:=Zcw hba
  have hc:=fun w=>Zu2 (w:=w) hu hv (by omega) (by omega)
  have hcn:¬Yew a b<0:=by unfold Yew;rw[Ys5 hab];split<;>omega
  have hL1:1≤(ds b).length:=by
   have:ds b≠[]:=fun hc=>by rw[Zds]at hc;omega
   exact Ywu.2 this
  by_cases hL:(ds b).length=1
  ·obtain⟨x,hx⟩:=Zag (l:=ds b) (k:=0) (by omega)
   have hbx:ds b=[x]:=by
    cases hq:ds b with
    |nil=>rw[hq]at hL;simp at hL
    |cons y l=>
     rw[hq]at hL hx
     simp at hL hx
     rw[hL,hx]
   have hxv:=Zbb b
   rw[hbx]at hxv
   simp[vI]at hxv
   have hxd:=(Zcd b).get hx
   obtain⟨b1,b2,b3,b4,b5,z1,z2,z3,z4⟩:=Sl.at (show Sl h N v (dI (ds b)) from hv) (Zbf hx)
   simp at z4
   simp[A.b94,hc,hcn,lv,hL,Zad,z1,z3,z4]
   refine Zaf (Znv (show Sl h N u (dI (ds a)) from hu) (Zcd a) (by omega) (by omega) hxd.2) ?_
   rintro y h1 n1 k1 ⟨q,rfl,hq⟩
   rw[Zbb]at hq
   simp only[Zbb]
   have e1:(a:Int).toNat=a:=by omega
   have e2:x.toNat=b:=by omega
   rw[e1,e2]at hq
   rw[e1,e2]
   have hRb:=Yuf a hb
   have hb9:b<1000000000:=by omega
   generalize hQ:a/b=Q at*
   generalize hR:a%b=R at*
   simp[splice]
   refine Zaf (Zf5 (l:=[(R:Int)]) (Sl.row (e:=3) (rw:=true) (cp:=some 1) (Yur n1) (by simp[dI]) rfl (fun k hk=>by simp at hk;omega)) (by simp)) ?_
   rintro y2 h2 n2 k2 hy2
   rw[Yjc (by omega)]at hy2
   have kk:=(Keeps.refl (h:=h1) (n:=n1)).new (.cells [.int .i64 (R:Int)] 3 true)
   simp[Ret]
   exact⟨(k1.trans kk).trans k2,q,y2,⟨rfl,rfl⟩,hq.keep (kk.trans k2),hy2⟩
  ·obtain⟨k,hk⟩:∃k,(ds b).length=k+2:=⟨(ds b).length-2,by omega⟩
   obtain⟨x,hx⟩:=Zag (l:=ds b) (k:=k+1) (by omega)
   have hxd:=(Zcd b).get hx
   obtain⟨f,hf,f0,f1,hlen,y1,hy1,hy5⟩:=Yk3 (k:=k+1) (by omega) hx
   obtain⟨b1,b2,b3,b4,b5,z1,z2,z3,z4⟩:=Sl.at (show Sl h N v (dI (ds b)) from hv) (Zbf hx)
   have c1:((k:Int)+2-1)=(k:Int)+1:=by omega
   have c2:(k:Int)+1<(k:Int)+2:=by omega
   have c3:¬((k:Int)+2=1):=by omega
   have c4:((k:Int)+1).toNat=k+1:=by omega
   have c5:(0:Int)≤(k:Int)+1:=by omega
   have w1:Zaq .i64 (x+1)=x+1:=Zaj (by omega) (by omega)
   have w2:(1000000000:Int).tdiv (x+1)=f:=by rw[hf];exact Yun (by decide)
   have w3:Zaq .i64 (f:Int)=f:=Zaj (by omega) (by omega)
   have c6:¬x+1=0:=by omega
   rw[hk]at lv
   simp(disch:=omega) [A.b94,hc,hcn,lv,Zad,c1,c2,c3,c4,c5,c6,z1,z3,z4,w1,w2,w3,splice]
   have k0:=(Keeps.refl (h:=h) (n:=N)).new (.cells [.int .i64 (f:Int)] 3 true)
   have hfr:Sl (h.set N (.cells [.int .i64 (f:Int)] 3 true)) (N+1) (.slice N 0 1 (some 1) 1) (dI [(f:Int)]):=Sl.row (e:=3) (rw:=true) (Yur N) (by simp[dI]) rfl (fun k hk=>by simp at hk;omega)
   have dF:Di [(f:Int)]:=Di.one (by omega) (by omega)
   refine Zaf (Ztt (a:=b) (b:=f) (Sl.keep hv k0) hfr (Zcd b) dF (Zbb b) (by simp[vI]) (by simp;omega)) ?_
   rintro vv h1 n1 k1 hvv
   have kle1:=k1.le
   have lvv:=hvv.len
   have hlen':(ds (b*f)).length=k+2:=by omega
   rw[Zas,hlen']at lvv
   simp[lvv]
   have k1a:=(Keeps.refl (h:=h1) (n:=n1)).new (.cells [] 3 true)
   refine Zaf (Ztt (a:=a) (b:=f) (((Sl.keep hu k0).keep k1).keep k1a) ((hfr.keep k1).keep k1a) (Zcd a) dF (Zbb a) (by simp[vI]) (by simp;omega)) ?_
   rintro uu h2 n2 k2 huu
   have kle2:=k2.le
   have hne:ds (a*f)≠[]:=fun hc=>by
    rw[Zds]at hc
    have:0<a*f:=Ywh (by omega) f0
    omega
   have hlaf:(ds (a*f)).length≤(ds a).length+1:=by
    apply Zfp
    have g1:=Zih (Zcd a)
    rw[Zbb,Yit]at g1
    have g2:a<1000000000^(ds a).length:=by exact_mod_cast g1
    rw[Ytw]
    exact Yvw g2 f1
   have hemp:=(k2.get n1 (by omega)).trans (show _=some (.cells [] 3 true) by simp)
   have hap:=Zsz (w:=[]) hemp huu hne (by omega)
   simp[hap,lu]
   have hN2:N≤n2:=by omega
   have kk2:=(((k0.trans k1).trans k1a).trans k2)
   refine Zah [(11,11),(63,71)] (fun e r st=>e=.exit 0∧PdI N h2 n2 (ds a).length ((a*f:Nat):Int) 0 r st) (PdI N h2 n2 (ds a).length ((a*f:Nat):Int)) ((ds a).length+1-(ds (a*f)).length) ?_ ?_ ?_
   ·refine⟨by simp,Keeps.refl.new _,_,ds (a*f),by simp;rfl,⟨fun q hq=>?_,.inr ⟨n2,by rw[Zdn],Ys6 _,by show n2<n2+1;omega,by simp[Zkt]⟩⟩,by omega,Zbb _,Zcd _⟩
    simp[Ze8]at hq
    obtain⟨q',_,rfl⟩:=hq
    rfl
   ·exact Yf4 (((Sl.keep hu k0).keep k1).keep k1a |>.keep k2) rfl (by omega) (by simp)
   ·rintro _ r ⟨H,n3,W⟩ hr ⟨rfl,hW,hK,u3,l,h11,ho,hm,hval,hdl⟩
    simp only at hW hK ho
    obtain⟨_,⟨h0,_⟩|⟨iu,hu3,i1,i2,i3⟩⟩:=ho
    ·simp[Ze8]at h0;rw[h0]at hm;simp at hm
    ·rw[Zdn]at hu3
     rw[Zkt]at i3
     subst hu3
     have hlu:l.length=(ds a).length+1:=by omega
     have hka:k+2<l.length:=by omega
     obtain⟨S,hS⟩:∃S,S=l.length-(k+2):=⟨_,rfl⟩
     have cS:((l.length:Int)-((k:Int)+2))=(S:Int):=by omega
     have oN:=Zg4 hN2 hW
     have kH:=hK.new (.cells (dI (List.replicate S 0)) 3 true)
     have nle:=hK.le
     have mz:(Zkl [.int .i64 0] S:List V)=dI (List.replicate S 0):=Zqn
     simp(disch:=first|(simp;done)|omega|rfl) [hr,h11,cS,mz]
     have hvY:=Dn.keep hvv (k1a.trans k2)
     have hval':vI l=(a*f:Nat):=hval
     refine Zah [(13,21),(82,191)] (fun e r st=>e=.exit 2∧OuI N h2 n2 iu n3 (n3+1) l.length (k+2) ((a*f:Nat):Int) (ds (b*f)) 0 r st) (OuI N h2 n2 iu n3 (n3+1) l.length (k+2) ((a*f:Nat):Int) (ds (b*f))) S ?_ ?_ ?_
     ·refine⟨l,List.replicate S 0,⟨oN,kH,rfl,?_,by simp⟩,by simp,rfl,by simp[hS],by omega,hdl,Di.zeros _,fun s h1 h2=>by omega,?_,fun s hs=>by simp[hs],by rw[Zps,hval];simp⟩
      ·rw[T.get_set,Ys5 (by omega)];exact i3
      ·obtain⟨x',hx',x0,x1,lo,hi⟩:=Znu (b:=b) (k:=k+1) (by omega)
       have g1:=Zih (Zcd a)
       rw[Zbb,show (ds a).length=S+(k+1) by omega,Zv7]at g1
       have g2:=Zje l S (by omega)
       have g3:=Zig (hdl.take S)
       have g4:pI (k+1)*1≤pI (k+1)*x':=Ytm (by omega) (Yu8 (Zjr _))
       have g5:pI S*pI (k+1)≤pI S*b:=Ytm (by omega) (Yu8 (Zjr _))
       have g6:(a:Int)*f<pI S*b*f:=Int.mul_lt_mul_of_pos_right (by omega) (by omega)
       rw[Zbb]
       apply Ywr
       intro hc
       have g7:pI S*((b*f:Nat):Int)≤pI S*vI (l.drop S):=Ytm hc (Yu8 (Zjr _))
       have g8:pI S*((b*f:Nat):Int)=pI S*b*f:=by push_cast;grind
       have g9:((a*f:Nat):Int)=(a:Int)*f:=by push_cast;rfl
       omega
     ·exact Yf6 hvY hlen' (Zcd _) hy1 hy5 hka (by omega) (by simp[hr]) (by simp[hr]) (by simp[hr,h11]) (by simp[hS]) hN2 i1 i2 (Yur n3)
     ·rintro _ r4 ⟨H4,n4,W4⟩ hr4 ⟨rfl,U,Q,⟨hW4,hK4,hn4,ru4,rq4⟩,r13,hUl,hQl,_,dU,dQ,hz,hdr,_,hfin⟩
      simp only at hW4 hK4 hn4 ru4 rq4
      subst hn4
      rw[Yu3]at hdr
      rw[Zbb]at hdr hfin
      obtain⟨qn,hqn⟩:=Yve (Zig dQ)
      obtain⟨un,hun⟩:=Yve (Zig dU)
      rw[hqn,hun]at hfin
      rw[hun]at hdr
      have hfn:un+b*f*qn=a*f:=by exact_mod_cast hfin
      have hdn:un<b*f:=by exact_mod_cast hdr
      have m1:a/b=qn:=by
       have:a*f/(b*f)=qn:=by
        rw[←hfn,Nat.add_mul_div_left _ _ (by omega),Yvk hdn,Yvn]
       rw[←this,Yw1 _ _ f0]
      have m2:un/f=a%b:=by
       have:a*f%(b*f)=un:=by rw[←hfn,Nat.add_mul_mod_self_left,Yu7 hdn]
       rw[←this,Ywk,Nat.mul_div_cancel _ f0]
      have hsU:Sl H4 (n3+1) (.slice iu 0 l.length none 1) (dI U):=Sl.row (by omega) ru4 (by simp[hUl]) (fun k hk=>by cases hk)
      have hsQ:Sl H4 (n3+1) (.slice n3 0 S (some S) 1) (dI Q):=Sl.row (by omega) rq4 (by simp[hQl,hS]) (fun k hk=>by simp at hk;omega)
      obtain⟨v',e1,e2⟩:=Zgy (w:=[]) hsU (lo:=0) (hi:=k+2) (by omega) (by rw[Zas];omega) none (some (.int .i64 ((k+2:Nat):Int))) (.inr ⟨rfl,rfl⟩) (.inl rfl)
      have e3:((dI U).take (k+2)).drop 0=dI (U.take (k+2)):=by rw[Yu3,dI,←List.map_take];rfl
      rw[e3]at e2
      have ck:((k+2:Nat):Int)=(k:Int)+2:=by omega
      rw[ck]at e1
      have frow:=(hK4.get N (by omega)).trans ((k2.get N (by omega)).trans ((show _=h1.get N by simp;omega).trans ((k1.get N (by omega)).trans (show _=some (.cells [.int .i64 (f:Int)] 3 true) by simp))))
      have hdU2:vI (U.take (k+2))=un:=by
       rw[←hun]
       exact(Zgu (fun t h1 h2=>hz t (by omega) (by omega))).symm
      simp[hr,hr4,h11,Zb0,evOpt,e1]
      refine Zaf (Zf5 e2 (by simp;omega)) ?_
      rintro y5 h5 n5 k5 hy5'
      rw[Zf0 (dU.take _) hdU2]at hy5'
      have kle5:=k5.le
      have frow5:=(k5.get N (by omega)).trans frow
      have lt5:N<n5:=by omega
      have lt4:iu<n3+1:=by omega
      have lenun:(ds un).length<1099511627776:=by
       have:(ds un).length≤(ds (b*f)).length:=Zcw (by omega)
       omega
      simp[hr,hr4,frow5]
      refine Zaf (Znv (d:=(f:Int)) hy5' (Zcd un) lenun (by omega) (by omega)) ?_
      rintro y6 h6 n6 k6 ⟨q6,rfl,hq6⟩
      have t1:(vI (ds un)).toNat=un:=by rw[Zbb];omega
      have t2:((f:Nat):Int).toNat=f:=by omega
      rw[t1,t2]at hq6
      rw[m2]at hq6
      generalize ((vI (ds un)).toNat%(f:Int).toNat)=ZZ
      simp[hr,hr4,lt4,lt5]
      refine Zaf (Zf5 ((hsQ.keep k5).keep k6) (by omega)) ?_
      rintro y7 h7 n7 k7 hy7
      rw[Zf0 dQ hqn]at hy7
      have oN4:Zac N W4=[]:=hW4
      have kall:=(((kk2.trans hK4).trans k5).trans k6).trans k7
      simp[hr,hr4,Ret,oN4]
      refine⟨kall,y7,q6,⟨rfl,rfl⟩,?_,?_⟩
      ·rw[m1];exact hy7
      ·exact Sl.keep hq6 k7
variable {s:Str}
noncomputable def A.w57:=A.q Tryz.f57
noncomputable def A.lb57_0:=A.ql A.w57 0 []
noncomputable def A.b57:=(fun x0=>A.qb A.w57 [x0]) A.lb57_0
def A.k57:=@A.kk 57 19 [.tmp 4] A.b57 (by kernel_rfl) rfl
noncomputable def A.w92:=A.q Tryz.f92
noncomputable def A.lb92_0:=A.ql A.w92 0 []
noncomputable def A.b92:=(fun x0=>A.qb A.w92 [x0]) A.lb92_0
def A.k92:=@A.kk 92 40 [.cell 2 (some 2)] A.b92 (by kernel_rfl) rfl
def Zkc{h:T O}{N:Nat}{u v:V}{a b:Nat}(hu:Dn h N u a)(hv:Dn h N v b)(hl:(ds a).length<1000000000000)(hl2:(ds b).length<1000000000000):Fn A.C 57 [u,v] h N (fun x h' n'=>Dn h' n' x (Nat.gcd a b)):=by
 intro w
 rw[Zae,A.k57 (by simp)]
 simp[A.b57]
 refine Zah [(0,1),(5,17)] (fun e r st=>e=.exit 0∧Zac N st.w=[]∧Keeps h N st.h st.n∧∃x,r.get 0=some x∧Dn st.h st.n x (Nat.gcd a b)) (fun m r st=>Zac N st.w=[]∧Keeps h N st.h st.n∧∃x y c,r.get 0=some x∧r.get 1=some y∧Dn st.h st.n x c∧Dn st.h st.n y m∧Nat.gcd c m=Nat.gcd a b∧(ds c).length<1000000000000∧(ds m).length<1000000000000) b ?_ ?_ ?_
 ·exact⟨by simp,Keeps.refl,u,v,a,by simp,by simp,hu,hv,rfl,hl,hl2⟩
 ·rintro m r ⟨H,n1,W⟩ hr hf ⟨hW,hK,x,y,c,h0,h1,hx,hy,hg,l1,l2⟩
  simp only at hW hK hx hy
  have ly:=hy.len
  rw[Zas]at ly
  rw[Zai]
  by_cases hm:m=0
  ·subst hm
   have z0:(ds 0).length=0:=by rw[Zcn];rfl
   rw[z0]at ly
   simp at hg
   simp[A.lb57_0,hr,hf,h0,h1,ly,hW,hK]
   rw[←hg];exact hx
  ·have hne:(ds m).length≠0:=fun hc=>hm (Zds.1 (Ytl hc))
   have p1:(0:Int)<((ds m).length:Int):=by omega
   have p2:0<(ds m).length:=by omega
   have p3:ds m≠[]:=fun hc=>hne (by rw[hc];rfl)
   simp[A.lb57_0,hr,hf,h0,h1,ly,p1,p2,p3]
   refine Zaf (Zm3 hx hy (by omega) l1 l2) ?_
   rintro z h3 n3 k3 ⟨q,r',rfl,hq,hr'⟩
   simp[hr,hf,h0,h1,hW]
   refine⟨c%m,Yuf _ (by omega),hK.trans k3,m,hy.keep k3,hr',?_,l2,?_⟩
   ·rw[←hg,Nat.gcd_comm c m,Nat.gcd_rec m c,Nat.gcd_comm]
   ·have:=Zcw (a:=c%m) (b:=m) (Nat.le_of_lt (Yuf _ (by omega)));omega
 ·rintro _ r ⟨H,n1,W⟩ hr ⟨rfl,hW,hK,x,h0,hx⟩
  simp only at hW hK hx
  simp[hr,h0,Ret,hW,hK]
  exact hx
def Zwe(x:Str):∀(y:Str),numV (x++y)=numV x*10^y.length+numV y:=by
 have key:∀(y:Str) (n:Nat),y.foldl (fun n (c:UInt8)=>10*n+(c.toNat-48)) n=n*10^y.length+y.foldl (fun n (c:UInt8)=>10*n+(c.toNat-48)) 0:=by
  intro y
  induction y with
  |nil=>simp
  |cons c y ih=>
   intro n
   rw[List.foldl_cons,List.foldl_cons,ih,ih (10*0+(c.toNat-48)),Ys4,Ytw]
   grind
 intro y
 unfold numV
 rw[List.foldl_append,key]
def Zs0(h:Zb7 s=true)(k:Nat):Zb7 (s.take k)=true:=by
 unfold Zb7 at*
 rw[Yt8]at*
 exact fun c hc=>h c (Yuk hc)
def Zki(h:Zb7 s=true)(k:Nat):Zb7 (s.drop k)=true:=by
 unfold Zb7 at*
 rw[Yt8]at*
 exact fun c hc=>h c (Ywp hc)
def PsI(h0:T O)(N:Nat)(s:Str)(m:Nat)(r:T V)(st:St):Prop:=Zac N st.w=[]∧Keeps h0 N st.h st.n∧∃cur w l,r.get 0=some (.str cur)∧cur.length=m∧1≤m∧m≤s.length∧Zb7 cur=true∧r.get 4=some w∧Own 1 3 N st.h st.n w (Ze8 l)∧Di l∧l.length+m≤s.length∧vI l+pI l.length*(numV cur:Nat)=(numV s:Nat)
def Zma(hd:Zb7 s=true)(h1:1≤s.length)(h2:s.length≤3000000000){h:T O}{N:Nat}:Fn A.C 92 [.str s] h N (fun v h' n'=>Rg h' n' v (numV s:Nat)):=by
 intro w
 obtain⟨c,hc⟩:=Zag (l:=s) (k:=0) (by omega)
 have hcd:=Zkh hd hc
 have hc0:s.head?=some c:=by cases s with
  |nil=>simp at hc
  |cons=>simpa using hc
 have a1:¬u8I c=45:=by omega
 have a2:(0:Int)<(s.length:Int):=by omega
 have a3:0<s.length:=by omega
 have hne:s≠[]:=fun h=>by rw[h]at h1;simp at h1
 rw[Zae,A.k92 (by simp)]
 simp(disch:=first|(simp;done)|omega|rfl) [-getElem?_pos,A.b92,a1,a2,a3,hne,hc0,hc,Zad]
 refine Zah [(0,0),(4,4),(16,32)] (fun e r st=>e=.exit 0∧∃m,m≤9∧PsI (h.set N (.cells [.bool false,.nilslice] 114 true)) (N+1) s m r st) (PsI (h.set N (.cells [.bool false,.nilslice] 114 true)) (N+1) s) s.length ?_ ?_ ?_
 ·exact⟨by simp,Keeps.refl,s,.nilslice,[],by simp,rfl,h1,Ys6 _,hd,by simp,Own.nil,Di.nil,by simp,by simp[vI,pI]⟩
 ·rintro m r ⟨H,n1,W⟩ hr hf ⟨hW,hK,cur,u,l,g0,hcl,m1,m2,hcd,g4,ho,hdi,hll,hv⟩
  simp only at hW hK ho
  subst hcl
  rw[Zai]
  by_cases h9:9<cur.length
  ·have h9':(9:Int)<(cur.length:Int):=by omega
   have nle:=hK.le
   have hvd:=Zjc (s:=cur.drop (cur.length-9)) (st:=⟨H,n1,W⟩) (Zki hcd _) (by simp;omega)
   have hcn:((cur.length:Int)-9).toNat=cur.length-9:=by omega
   have hnv:=Zea (Zki hcd (cur.length-9))
   have hdl:(cur.drop (cur.length-9)).length=9:=by simp;omega
   rw[hdl]at hnv
   have hsp:=Zwe (cur.take (cur.length-9)) (cur.drop (cur.length-9))
   rw[Yva,hdl,show (10:Nat)^9=1000000000 by decide]at hsp
   generalize hD:numV (cur.drop (cur.length-9))=D at*
   obtain⟨v',h',w',e1,e2,e3,e4,e5⟩:=Zbx (x:=[.int .i64 (D:Int)]) (u:=.slice n1 0 1 (some 1) 1) (bytes:=8) (w:=W) (ho.keep (Keeps.refl.new (.cells [.int .i64 (D:Int)] 3 true))) (by omega) (by decide) rfl (by simp[Za0,St.row,slc]) (by rw[Zdn];omega)
   rw[←Zdd]at e5
   simp(disch:=first|(simp;done)|omega|rfl) [A.lb92_0,hr,hf,g0,g4,h9,h9',hcn,evOpt,hvd,splice,e1]
   refine⟨cur.length-9,by omega,⟨by rw[e2];exact hW,(hK.new _).then e3,cur.take (cur.length-9),v',l++[(D:Int)],by simp,by simp,by omega,by omega,Zs0 hcd _,by simp,e5,hdi.app (Di.one (by omega) (by omega)),by simp;omega,?_⟩⟩
   rw[Zfy,Ytu,Yux,Zc4,←hv]
   have hsp':((numV cur:Nat):Int)=(numV (cur.take (cur.length-9)):Nat)*1000000000+D:=by omega
   rw[hsp']
   generalize ((numV (cur.take (cur.length-9)):Nat):Int)=X
   generalize pI l.length=P
   grind
  ·have h9':¬(9:Int)<(cur.length:Int):=by omega
   simp[A.lb92_0,hr,hf,g0,h9,h9']
   exact⟨cur.length,by omega,hW,hK,cur,u,l,by simp[g0],rfl,m1,m2,hcd,by simp[g4],ho,hdi,hll,hv⟩
 ·rintro _ r ⟨H,n1,W⟩ hr ⟨rfl,m,m9,hW,hK,cur,u,l,g0,hcl,m1,m2,hcd,g4,ho,hdi,hll,hv⟩
  simp only at hW hK ho
  subst hcl
  have nle:=hK.le
  have hvd:=Zjc (s:=cur) (st:=⟨H,n1,W⟩) hcd (by omega)
  have hnv:=Zea hcd
  have hp9:=Zv9 m9
  generalize hD:numV cur=D at*
  obtain⟨v',h',w',e1,e2,e3,e4,e5⟩:=Zbx (x:=[.int .i64 (D:Int)]) (u:=.slice n1 0 1 (some 1) 1) (bytes:=8) (w:=W) (ho.keep (Keeps.refl.new (.cells [.int .i64 (D:Int)] 3 true))) (by omega) (by decide) rfl (by simp[Za0,St.row,slc]) (by rw[Zdn];omega)
  rw[←Zdd]at e5
  simp[hr,g0,g4,hvd,splice,e1]
  have hdi2:Di (l++[(D:Int)]):=hdi.app (Di.one (by omega) (by omega))
  refine Zaf (Zbz (n:=numV s) e5.sl hdi2 (by rw[Zfy];exact hv) (by simp;omega)) ?_
  rintro y h5 n5 k5 hy
  have kk:=((hK.new (.cells [.int .i64 (D:Int)] 3 true)).then e3).trans k5
  have kle:=kk.le
  have nrow:=kk.get N (by omega)
  simp at nrow
  obtain⟨u5,rfl,hu5⟩:=hy
  have hu6:=fun c1 (hc:c1.length=2)=>Sl.setInt (i:=N) (c1:=c1) (e1:=114) (w1:=true) hu5 nrow (by intro x hx k m;simp at hx;rcases hx with rfl|rfl<;>simp) hc
  have huo:=Sl.form hu5 |>.one
  unfold V.one at huo
  have ow:Zac N w'=[]:=Zg4 (Yvz N) (by rw[e2];exact hW)
  have k0:=(Keeps.refl (h:=h) (n:=N)).new (.cells [.bool false,.nilslice] 114 true)
  simp[hr,nrow,splice,Zak,huo,Zal,slc,Ret,ow]
  exact⟨(k0.trans kk).set (Ys6 N),u5,by simp,by simpa[Dn]using hu6 _ rfl⟩
variable {s:Str}
noncomputable def A.b46:=A.q Tryz.f46
def A.k46:=@A.kk 46 25 [.cell 2 (some 2),.cell 3 (some 2)] A.b46 (by kernel_rfl) rfl
noncomputable def A.b20:=A.q Tryz.f20
def A.k20:=@A.kk 20 96 [.tmp 2] A.b20 (by kernel_rfl) rfl
def Zrc(hk:slashAt s<s.length)(hp:Zb7 (s.take (slashAt s))=true)(hd:Zb7 (s.drop (slashAt s+1))=true)(p1:1≤(s.take (slashAt s)).length)(d1:1≤(s.drop (slashAt s+1)).length)(hl:s.length≤100000){h:T O}{N:Nat}:Fn A.C 46 [.str s] h N (fun v h' n'=>∃x y,v=.tup [.agg [.bool false,x],.agg [.bool false,y]]∧Dn h' n' x (numV (s.take (slashAt s)))∧Dn h' n' y (numV (s.drop (slashAt s+1)))):=by
 intro w
 rw[Zae,A.k46 (by simp)]
 have hsl:=fun st=>Zhq (s:=s) (st:=st) (by omega)
 have c1:¬((slashAt s:Int)=(s.length:Int)):=by omega
 have c2:¬(slashAt s=s.length):=by omega
 have c3:(slashAt s:Int)≤(s.length:Int):=by omega
 have c4:(slashAt s:Int)+1≤(s.length:Int):=by omega
 have c5:((slashAt s:Int)+1).toNat=slashAt s+1:=by omega
 simp[A.b46,hsl,c1,c2,c3,c4,c5,Zad,evOpt]
 refine Zaf (Zma hp p1 (by simp;omega)) ?_
 rintro v1 h1 n1 k1 ⟨x,rfl,hx⟩
 have nx:¬((numV (s.take (slashAt s)):Nat):Int)<0:=by omega
 simp(disch:=omega) [hsl,c1,c2,c3,c4,c5,Zad,evOpt,nx]
 refine Zaf (Zma hd d1 (by simp;omega)) ?_
 rintro v2 h2 n2 k2 ⟨y,rfl,hy⟩
 have ny:¬((numV (s.drop (slashAt s+1)):Nat):Int)<0:=by omega
 have kle1:=k1.le
 have kle2:=k2.le
 have hx:=Dn.keep hx k2
 have r0:=(k2.get N (by omega)).trans (k1.get N (by omega))
 have r1:=(k2.get (N+1) (by omega)).trans (k1.get (N+1) (by omega))
 simp at r0 r1
 have nint:∀u∈([.bool false,.nilslice]:List V),∀k n,u≠V.int k n:=by intro u hu k n;simp at hu;rcases hu with rfl|rfl<;>simp
 have hxo:=(Sl.form hx).one
 have hyo:=(Sl.form hy).one
 unfold V.one at hxo hyo
 have d1':N<n1:=by omega
 have d2':N<n2:=by omega
 have d3':N+1<n2:=by omega
 have d4':¬N+1=N:=by omega
 simp[r0,r1,ny,nx,splice,Zak,hxo,hyo,d1',d2',d3',Zal,slc,Zan.chk,Ret]
 have hx1:=Sl.setInt (i:=N) (c1:=[.bool false,x]) (e1:=114) (w1:=true) hx r0 nint rfl
 have hy1:=Sl.setInt (i:=N) (c1:=[.bool false,x]) (e1:=114) (w1:=true) hy r0 nint rfl
 have r1':(h2.set N (.cells [.bool false,x] 114 true)).get (N+1)=some (.cells [.bool false,.nilslice] 114 true):=by rw[T.get_set,Ys5 (by omega)];exact r1
 have hx2:=Sl.setInt (i:=N+1) (c1:=[.bool false,y]) (e1:=114) (w1:=true) hx1 r1' nint rfl
 have hy2:=Sl.setInt (i:=N+1) (c1:=[.bool false,y]) (e1:=114) (w1:=true) hy1 r1' nint rfl
 have k0:=((Keeps.refl (h:=h) (n:=N)).new (.cells [.bool false,.nilslice] 114 true)).new (.cells [.bool false,.nilslice] 114 true)
 exact⟨(((k0.trans k1).trans k2).set (Ys6 N)).set (by omega),x,y,⟨rfl,rfl⟩,hx2,hy2⟩
def Zht{s:Str}(h:Zcu s=true):Zb7 s=true∧1≤s.length:=by
 cases s with
 |nil=>cases h
 |cons c s=>
  unfold Zcu at h
  rw[Ytt]at h
  exact⟨h.1,by simp⟩
def Ypm:ds 1=[1]:=by rw[Zhd (by decide),Zcn];rfl
def Zwd(h:Zb7 s=true)(hl:s.length≤100000):(ds (numV s)).length<1000000000000:=by
 have h1:=Zea h
 have h2:(10:Nat)^s.length≤1000000000^s.length:=Yv4 (by decide) _
 have:=Zfp (n:=numV s) (k:=s.length) (by omega)
 omega
def Zm4{s:Str}(hl:s.length≤100000){h:T O}{N:Nat}:Fn A.C 20 [.str s] h N (fun v _ _=>v=.int .i64 (chkNum s:Nat)):=by
 intro w
 rw[Zae,A.k20 (by simp)]
 cases s with
 |nil=>
  have hsl:=fun st=>Zhq (s:=[]) (st:=st) (by simp)
  have hdec:=fun st=>Zfq (s:=[]) (st:=st) (by simp)
  simp[A.b20,hsl,slashAt,evOpt,hdec,Zcu,Ret]
  exact⟨Keeps.refl,rfl⟩
 |cons c t=>
  by_cases h45:u8I c=45
  ·have hneg:chkNum (c::t)=Zke true (t.take (slashAt t)) (decide (slashAt t<t.length)) (t.drop (slashAt t+1)):=by
    have:c.toNat=45:=by unfold u8I at h45;omega
    simp[chkNum,Ymm,negS,Zao,this]
   rw[hneg]
   have hfirst:(0:Int)<(t.length:Int)+1:=by omega
   have hsl:=fun st=>Zhq (s:=t) (st:=st) (by simp at hl;omega)
   have hdec:=fun st=>Zfq (s:=t.take (slashAt t)) (st:=st) (by simp at hl ⊢;omega)
   have hlk:(slashAt t:Int)≤(t.length:Int):=by have:=Zdc t;omega
   have hlk2:slashAt t≤t.length:=Zdc t
   have hpl:(t.take (slashAt t)).length=slashAt t:=by simp;omega
   have hdl:(t.drop (slashAt t+1)).length=t.length-(slashAt t+1):=by simp
   have hhead:=h45
   have hc0:=h45
   have hbt:=h45
   simp at hl
   generalize hp:t.take (slashAt t)=p at*
   generalize hdq:t.drop (slashAt t+1)=d at*
   by_cases hA:Zcu p=true
   ·by_cases hz:p=[48]
    ·have e1:(p==[48])=true:=by simp[hz]
     simp(disch:=first|(simp;done)|omega|(simp only[Zaa,Zab,Ys4];omega)|rfl) [A.b20,hfirst,hsl,hdec,hlk,hlk2,hp,hdq,evOpt,Zad,hhead,hc0,hbt,hA,e1,Ret]
     exact⟨Keeps.refl,by simp[Zke,Zcb,hz]⟩
    ·have e1:(p==[48])=false:=by simp[hz]
     by_cases hbr:slashAt t<t.length
     ·have hbr':(slashAt t:Int)<(t.length:Int):=by omega
      have hdd:=fun st=>Zfq (s:=d) (st:=st) (by omega)
      by_cases hD:Zcu d=true
      ·by_cases h48:d=[48]
       ·have e8:(d==[48])=true:=by simp[h48]
        simp(disch:=first|(simp;done)|omega|(simp only[Zaa,Zab,Ys4];omega)|rfl) [A.b20,hfirst,hsl,hdec,hlk,hlk2,hp,hdq,evOpt,Zad,hhead,hc0,hbt,hA,e1,hbr,hbr',hdd,hD,e8,Ret]
        exact⟨Keeps.refl,by simp[Zke,Zcb,h48]⟩
       ·have e8:(d==[48])=false:=by simp[h48]
        by_cases h49:d=[49]
        ·have e9:(d==[49])=true:=by simp[h49]
         simp(disch:=first|(simp;done)|omega|(simp only[Zaa,Zab,Ys4];omega)|rfl) [A.b20,hfirst,hsl,hdec,hlk,hlk2,hp,hdq,evOpt,Zad,hhead,hc0,hbt,hA,e1,hbr,hbr',hdd,hD,e8,e9,Ret]
         exact⟨Keeps.refl,by simp[Zke,Zcb,h49]⟩
        ·have e9:(d==[49])=false:=by simp[h49]
         have hform:Zcb true p true d=true:=by simp[Zcb,hA,hD,h48,h49,hz]
         by_cases b6:600<p.length
         ·have b6':(600:Int)<(slashAt t:Int):=by omega
          simp(disch:=first|(simp;done)|omega|(simp only[Zaa,Zab,Ys4];omega)|rfl) [A.b20,hfirst,hsl,hdec,hlk,hlk2,hp,hdq,evOpt,Zad,hhead,hc0,hbt,hA,e1,hbr,hbr',hdd,hD,e8,e9,b6',Ret]
          exact⟨Keeps.refl,by simp[Zke,hform,b6]⟩
         ·have b6':¬(600:Int)<(slashAt t:Int):=by omega
          by_cases b7:600<d.length
          ·have b7':(600:Int)<(t.length:Int)-(slashAt t:Int)-1:=by omega
           simp(disch:=first|(simp;done)|omega|(simp only[Zaa,Zab,Ys4];omega)|rfl) [A.b20,hfirst,hsl,hdec,hlk,hlk2,hp,hdq,evOpt,Zad,hhead,hc0,hbt,hA,e1,hbr,hbr',hdd,hD,e8,e9,b6',b7',Ret]
           exact⟨Keeps.refl,by simp[Zke,hform,b6,b7]⟩
          ·have b7':¬(600:Int)<(t.length:Int)-(slashAt t:Int)-1:=by omega
           obtain⟨pa,pb⟩:=Zht hA
           obtain⟨da,db⟩:=Zht hD
           simp(disch:=first|(simp;done)|omega|(simp only[Zaa,Zab,Ys4];omega)|rfl) [A.b20,hfirst,hsl,hdec,hlk,hlk2,hp,hdq,evOpt,Zad,hhead,hc0,hbt,hA,e1,hbr,hbr',hdd,hD,e8,e9,b6',b7']
           refine Zaf (Zrc hbr (by rw[hp];exact pa) (by rw[hdq];exact da) (by rw[hp];exact pb) (by rw[hdq];exact db) (by omega)) ?_
           rintro v1 h1 n1 k1 ⟨x,y,rfl,hx,hy⟩
           rw[hp]at hx
           rw[hdq]at hy
           have hxo:=(Sl.form hx).one
           have hyo:=(Sl.form hy).one
           unfold V.one at hxo hyo
           have kx:=((((Keeps.refl (h:=h1) (n:=n1)).new (.cells [.bool false,.nilslice] 114 true)).new (.cells [.bool false,.nilslice] 114 true)).set (i:=n1) (o:=.cells [.bool false,x] 114 true) (Ys6 n1)).set (i:=n1+1) (o:=.cells [.bool false,y] 114 true) (by omega)
           simp[splice,Zak,hxo,hyo]
           refine Zaf (Zkc (hx.keep kx) (hy.keep kx) (Zwd pa (by omega)) (Zwd da (by omega))) ?_
           rintro z h2 n2 k2 hz2
           have kk:=(k1.trans kx).trans k2
           have lz:=hz2.len
           rw[Zas]at lz
           have wok:¬n1<N:=by have:=k1.le;omega
           have wok2:¬n1+1<N:=by have:=k1.le;omega
           generalize hG:Nat.gcd (numV p) (numV d)=G at*
           by_cases g1:G=1
           ·subst g1
            rw[Ypm]at lz
            obtain⟨b1,b2,b3,b4,b5,z1,z2,z3,z4⟩:=Sl.at (show Sl h2 n2 z (dI [1]) from Ypm▸hz2) (j:=0) (x:=.int .i64 1) rfl
            simp at z4
            simp[lz,z1,z3,z4,Zad,Ret,wok,wok2]
            exact⟨kk,by simp[Zke,hform,b6,b7,hG]⟩
           ·have hres:Zke true p true d=1:=by simp[Zke,hform,b6,b7,hG,g1]
            by_cases g2:(ds G).length=1
            ·obtain⟨gx,hgx⟩:=Zag (l:=ds G) (k:=0) (by omega)
             obtain⟨b1,b2,b3,b4,b5,z1,z2,z3,z4⟩:=Sl.at (show Sl h2 n2 z (dI (ds G)) from hz2) (Zbf hgx)
             simp at z4
             have gne:¬gx=1:=fun hc=>g1 (by
              have hv:=Zbb G
              rw[Yad hgx,Yui (by omega)]at hv
              simp[vI,pI]at hv
              omega)
             simp[lz,g2,z1,z3,z4,gne,Zad,Ret,wok,wok2,hres]
             exact kk
            ·have g2':¬((ds G).length:Int)=1:=by omega
             simp[lz,g2,g2',Zad,Ret,wok,wok2,hres]
             exact kk
      ·have hD:Zcu d=false:=by simpa using hD
       simp(disch:=first|(simp;done)|omega|(simp only[Zaa,Zab,Ys4];omega)|rfl) [A.b20,hfirst,hsl,hdec,hlk,hlk2,hp,hdq,evOpt,Zad,hhead,hc0,hbt,hA,e1,hbr,hbr',hdd,hD,Ret]
       exact⟨Keeps.refl,by simp[Zke,Zcb,hD]⟩
     ·have hbr2:slashAt t=t.length:=by omega
      have hbr':¬(slashAt t:Int)<(t.length:Int):=by omega
      have hform:Zcb true p false d=true:=by simp[Zcb,hA,hz]
      have dl0:¬600<d.length:=by omega
      have b7':¬(600:Int)<(t.length:Int)-(slashAt t:Int)-1:=by omega
      by_cases b6:600<p.length
      ·have b6':(600:Int)<(slashAt t:Int):=by omega
       simp(disch:=first|(simp;done)|omega|(simp only[Zaa,Zab,Ys4];omega)|rfl) [A.b20,hfirst,hsl,hdec,hlk,hlk2,hp,hdq,evOpt,Zad,hhead,hc0,hbt,hA,e1,hbr,hbr',b6',Ret]
       exact⟨Keeps.refl,by simp[Zke,hform,b6]⟩
      ·have b6':¬(600:Int)<(slashAt t:Int):=by omega
       simp(disch:=first|(simp;done)|omega|(simp only[Zaa,Zab,Ys4];omega)|rfl) [A.b20,hfirst,hsl,hdec,hlk,hlk2,hp,hdq,evOpt,Zad,hhead,hc0,hbt,hA,e1,hbr,hbr',b6',b7',Ret]
       exact⟨Keeps.refl,by simp[Zke,hform,b6,dl0]⟩
   ·have hA:Zcu p=false:=by simpa using hA
    simp(disch:=first|(simp;done)|omega|(simp only[Zaa,Zab,Ys4];omega)|rfl) [A.b20,hfirst,hsl,hdec,hlk,hlk2,hp,hdq,evOpt,Zad,hhead,hc0,hbt,hA,Ret]
    exact⟨Keeps.refl,by simp[Zke,Zcb,hA]⟩
  ·have hsn:negS (c::t)=false:=by
    simp only[negS,decide_eq_false_iff_not];unfold u8I at h45;omega
   obtain⟨t,ht⟩:∃t',t'=c::t:=⟨c::t,rfl⟩
   rw[←ht]at hl hsn ⊢
   have hc0:t[0]?=some c:=by rw[ht];rfl
   have hhead:t.head?=some c:=by rw[ht];rfl
   have hlen:0<t.length:=by rw[ht];simp
   have hbt:t≠[]:=by rw[ht];simp
   have hlen':(0:Int)<(t.length:Int):=by omega
   have hfirst:0<t.length:=hlen
   clear ht
   have hneg:chkNum t=Zke false (t.take (slashAt t)) (decide (slashAt t<t.length)) (t.drop (slashAt t+1)):=by
    simp[chkNum,Ymm,Zao,hsn]
   rw[hneg]
   have hsl:=fun st=>Zhq (s:=t) (st:=st) (by omega)
   have hdec:=fun st=>Zfq (s:=t.take (slashAt t)) (st:=st) (by simp;omega)
   have hlk:(slashAt t:Int)≤(t.length:Int):=by have:=Zdc t;omega
   have hlk2:slashAt t≤t.length:=Zdc t
   have hpl:(t.take (slashAt t)).length=slashAt t:=by simp;omega
   have hdl:(t.drop (slashAt t+1)).length=t.length-(slashAt t+1):=by simp
   generalize hp:t.take (slashAt t)=p at*
   generalize hdq:t.drop (slashAt t+1)=d at*
   by_cases hA:Zcu p=true
   ·have e1:True:=trivial
    by_cases hbr:slashAt t<t.length
    ·have hbr':(slashAt t:Int)<(t.length:Int):=by omega
     have hdd:=fun st=>Zfq (s:=d) (st:=st) (by omega)
     by_cases hD:Zcu d=true
     ·by_cases h48:d=[48]
      ·have e8:(d==[48])=true:=by simp[h48]
       simp(disch:=first|(simp;done)|omega|(simp only[Zaa,Zab,Ys4];omega)|rfl) [-getElem?_pos,A.b20,hfirst,hsl,hdec,hlk,hlk2,hp,hdq,evOpt,Zad,hhead,hc0,hbt,h45,hlen',hA,e1,hbr,hbr',hdd,hD,e8,Ret]
       exact⟨Keeps.refl,by simp[Zke,Zcb,h48]⟩
      ·have e8:(d==[48])=false:=by simp[h48]
       by_cases h49:d=[49]
       ·have e9:(d==[49])=true:=by simp[h49]
        simp(disch:=first|(simp;done)|omega|(simp only[Zaa,Zab,Ys4];omega)|rfl) [-getElem?_pos,A.b20,hfirst,hsl,hdec,hlk,hlk2,hp,hdq,evOpt,Zad,hhead,hc0,hbt,h45,hlen',hA,e1,hbr,hbr',hdd,hD,e8,e9,Ret]
        exact⟨Keeps.refl,by simp[Zke,Zcb,h49]⟩
       ·have e9:(d==[49])=false:=by simp[h49]
        have hform:Zcb false p true d=true:=by simp[Zcb,hA,hD,h48,h49]
        by_cases b6:600<p.length
        ·have b6':(600:Int)<(slashAt t:Int):=by omega
         simp(disch:=first|(simp;done)|omega|(simp only[Zaa,Zab,Ys4];omega)|rfl) [-getElem?_pos,A.b20,hfirst,hsl,hdec,hlk,hlk2,hp,hdq,evOpt,Zad,hhead,hc0,hbt,h45,hlen',hA,e1,hbr,hbr',hdd,hD,e8,e9,b6',Ret]
         exact⟨Keeps.refl,by simp[Zke,hform,b6]⟩
        ·have b6':¬(600:Int)<(slashAt t:Int):=by omega
         by_cases b7:600<d.length
         ·have b7':(600:Int)<(t.length:Int)-(slashAt t:Int)-1:=by omega
          simp(disch:=first|(simp;done)|omega|(simp only[Zaa,Zab,Ys4];omega)|rfl) [-getElem?_pos,A.b20,hfirst,hsl,hdec,hlk,hlk2,hp,hdq,evOpt,Zad,hhead,hc0,hbt,h45,hlen',hA,e1,hbr,hbr',hdd,hD,e8,e9,b6',b7',Ret]
          exact⟨Keeps.refl,by simp[Zke,hform,b6,b7]⟩
         ·have b7':¬(600:Int)<(t.length:Int)-(slashAt t:Int)-1:=by omega
          obtain⟨pa,pb⟩:=Zht hA
          obtain⟨da,db⟩:=Zht hD
          simp(disch:=first|(simp;done)|omega|(simp only[Zaa,Zab,Ys4];omega)|rfl) [-getElem?_pos,A.b20,hfirst,hsl,hdec,hlk,hlk2,hp,hdq,evOpt,Zad,hhead,hc0,hbt,h45,hlen',hA,e1,hbr,hbr',hdd,hD,e8,e9,b6',b7']
          refine Zaf (Zrc hbr (by rw[hp];exact pa) (by rw[hdq];exact da) (by rw[hp];exact pb) (by rw[hdq];exact db) (by omega)) ?_
          rintro v1 h1 n1 k1 ⟨x,y,rfl,hx,hy⟩
          rw[hp]at hx
          rw[hdq]at hy
          have hxo:=(Sl.form hx).one
          have hyo:=(Sl.form hy).one
          unfold V.one at hxo hyo
          have kx:=((((Keeps.refl (h:=h1) (n:=n1)).new (.cells [.bool false,.nilslice] 114 true)).new (.cells [.bool false,.nilslice] 114 true)).set (i:=n1) (o:=.cells [.bool false,x] 114 true) (Ys6 n1)).set (i:=n1+1) (o:=.cells [.bool false,y] 114 true) (by omega)
          simp[splice,Zak,hxo,hyo]
          refine Zaf (Zkc (hx.keep kx) (hy.keep kx) (Zwd pa (by omega)) (Zwd da (by omega))) ?_
          rintro z h2 n2 k2 hz2
          have kk:=(k1.trans kx).trans k2
          have lz:=hz2.len
          rw[Zas]at lz
          have wok:¬n1<N:=by have:=k1.le;omega
          have wok2:¬n1+1<N:=by have:=k1.le;omega
          generalize hG:Nat.gcd (numV p) (numV d)=G at*
          by_cases g1:G=1
          ·subst g1
           rw[Ypm]at lz
           obtain⟨b1,b2,b3,b4,b5,z1,z2,z3,z4⟩:=Sl.at (show Sl h2 n2 z (dI [1]) from Ypm▸hz2) (j:=0) (x:=.int .i64 1) rfl
           simp at z4
           simp[lz,z1,z3,z4,Zad,Ret,wok,wok2]
           exact⟨kk,by simp[Zke,hform,b6,b7,hG]⟩
          ·have hres:Zke false p true d=1:=by simp[Zke,hform,b6,b7,hG,g1]
           by_cases g2:(ds G).length=1
           ·obtain⟨gx,hgx⟩:=Zag (l:=ds G) (k:=0) (by omega)
            obtain⟨b1,b2,b3,b4,b5,z1,z2,z3,z4⟩:=Sl.at (show Sl h2 n2 z (dI (ds G)) from hz2) (Zbf hgx)
            simp at z4
            have gne:¬gx=1:=fun hc=>g1 (by
             have hv:=Zbb G
             rw[Yad hgx,Yui (by omega)]at hv
             simp[vI,pI]at hv
             omega)
            simp[lz,g2,z1,z3,z4,gne,Zad,Ret,wok,wok2,hres]
            exact kk
           ·have g2':¬((ds G).length:Int)=1:=by omega
            simp[lz,g2,g2',Zad,Ret,wok,wok2,hres]
            exact kk
     ·have hD:Zcu d=false:=by simpa using hD
      simp(disch:=first|(simp;done)|omega|(simp only[Zaa,Zab,Ys4];omega)|rfl) [-getElem?_pos,A.b20,hfirst,hsl,hdec,hlk,hlk2,hp,hdq,evOpt,Zad,hhead,hc0,hbt,h45,hlen',hA,e1,hbr,hbr',hdd,hD,Ret]
      exact⟨Keeps.refl,by simp[Zke,Zcb,hD]⟩
    ·have hbr2:slashAt t=t.length:=by omega
     have hbr':¬(slashAt t:Int)<(t.length:Int):=by omega
     have hform:Zcb false p false d=true:=by simp[Zcb,hA]
     have dl0:¬600<d.length:=by omega
     have b7':¬(600:Int)<(t.length:Int)-(slashAt t:Int)-1:=by omega
     by_cases b6:600<p.length
     ·have b6':(600:Int)<(slashAt t:Int):=by omega
      simp(disch:=first|(simp;done)|omega|(simp only[Zaa,Zab,Ys4];omega)|rfl) [-getElem?_pos,A.b20,hfirst,hsl,hdec,hlk,hlk2,hp,hdq,evOpt,Zad,hhead,hc0,hbt,h45,hlen',hA,e1,hbr,hbr',b6',Ret]
      exact⟨Keeps.refl,by simp[Zke,hform,b6]⟩
     ·have b6':¬(600:Int)<(slashAt t:Int):=by omega
      simp(disch:=first|(simp;done)|omega|(simp only[Zaa,Zab,Ys4];omega)|rfl) [-getElem?_pos,A.b20,hfirst,hsl,hdec,hlk,hlk2,hp,hdq,evOpt,Zad,hhead,hc0,hbt,h45,hlen',hA,e1,hbr,hbr',b6',b7',Ret]
      exact⟨Keeps.refl,by simp[Zke,hform,b6,dl0]⟩
   ·have hA:Zcu p=false:=by simpa using hA
    simp(disch:=first|(simp;done)|omega|(simp only[Zaa,Zab,Ys4];omega)|rfl) [-getElem?_pos,A.b20,hfirst,hsl,hdec,hlk,hlk2,hp,hdq,evOpt,Zad,hhead,hc0,hbt,h45,hlen',hA,Ret]
    exact⟨Keeps.refl,by simp[Zke,Zcb,hA]⟩
end Go.Mx
