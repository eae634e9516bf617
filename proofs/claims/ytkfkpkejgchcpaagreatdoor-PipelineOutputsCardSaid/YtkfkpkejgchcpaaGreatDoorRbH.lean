/-lensletref01-/
import Derived.Test.YtkfkpkejgchcpaaGreatDoorRbD
set_option linter.all false
namespace Go.Mx
open Go Go.Proofs
set_option maxRecDepth 1000000
def Yii{r:Nat}(h:r<1000000000):Zfy [(r:Int)]=ds r:=Zfx (Di.one (by omega) (by omega)) (by simp[vI])
def Zmk{h:T O}{N:Nat}{u v:V}{a b:Nat}(hu:Dn h N u a)(hv:Dn h N v b)(hb:0<b)(hl:(ds a).length<1000000000000)(hl2:(ds b).length<1000000000000):Fn A.C 148 [u,v] h N (fun x h' n'=>∃q r,x=.tup [q,r]∧Dn h' n' q (a/b)∧Dn h' n' r (a%b)):=by
 intro w
 have lu:=hu.len
 have lv:=hv.len
 rw[Zat]at lu lv
 rw[Zac,A.k148 (by simp)]
 by_cases hab:a<b
 ·have hc0:Yd7 a b= -1:=by simp[Yd7,hab]
  have hc:=fun w=>Zue (w:=w) hu hv (by omega) (by omega)
  simp[A.b148,hc,hc0,Ret]
  refine⟨Keeps.refl,.nilslice,u,⟨rfl,rfl⟩,?_,?_⟩
  ·rw[Yuf hab];unfold Dn;rw[Zcn];exact Sl.nil
  ·rw[Yt3 hab];exact hu
 ·have hba:b≤a:=by omega
  have hlb:=Zcv hba
  have hc:=fun w=>Zue (w:=w) hu hv (by omega) (by omega)
  have hcn:¬Yd7 a b<0:=by unfold Yd7;rw[Yr3 hab];split<;>omega
  have hL1:1≤(ds b).length:=by
   have:ds b≠[]:=fun hc=>by rw[Zdr]at hc;omega
   exact Yvq.2 this
  by_cases hL:(ds b).length=1
  ·obtain⟨x,hx⟩:=Zag (l:=ds b) (k:=0) (by omega)
   have hbx:ds b=[x]:=by
    cases hq:ds b with
    |nil=>rw[hq]at hL;simp at hL
    |cons y l=>
     rw[hq]at hL hx
     simp at hL hx
     rw[hL,hx]
   have hxv:=Zbb b
   rw[hbx]at hxv
   simp[vI]at hxv
   have hxd:=(Zca b).get hx
   obtain⟨b1,b2,b3,b4,b5,z1,z2,z3,z4⟩:=Sl.at (show Sl h N v (dI (ds b)) from hv) (Zbe hx)
   simp at z4
   simp[A.b148,hc,hcn,lv,hL,Zae,z1,z3,z4]
   refine Zaf (Znd (show Sl h N u (dI (ds a)) from hu) (Zca a) (by omega) (by omega) hxd.2) ?_
   rintro y h1 n1 k1 ⟨q,rfl,hq⟩
   rw[Zbb]at hq
   simp only[Zbb]
   have e1:(a:Int).toNat=a:=by omega
   have e2:x.toNat=b:=by omega
   rw[e1,e2]at hq
   rw[e1,e2]
   have hRb:=Ys9 a hb
   have hb9:b<1000000000:=by omega
   generalize hQ:a/b=Q at*
   generalize hR:a%b=R at*
   simp[splice]
   refine Zaf (Zf0 (l:=[(R:Int)]) (Sl.row (e:=3) (rw:=true) (cp:=some 1) (Ytm n1) (by simp[dI]) rfl (fun k hk=>by simp at hk;omega)) (by simp)) ?_
   rintro y2 h2 n2 k2 hy2
   rw[Yii (by omega)]at hy2
   have kk:=(Keeps.refl (h:=h1) (n:=n1)).new (.cells [.int .i64 (R:Int)] 3 true)
   simp[Ret]
   exact⟨(k1.trans kk).trans k2,q,y2,⟨rfl,rfl⟩,hq.keep (kk.trans k2),hy2⟩
  ·obtain⟨k,hk⟩:∃k,(ds b).length=k+2:=⟨(ds b).length-2,by omega⟩
   obtain⟨x,hx⟩:=Zag (l:=ds b) (k:=k+1) (by omega)
   have hxd:=(Zca b).get hx
   obtain⟨f,hf,f0,f1,hlen,y1,hy1,hy5⟩:=Yj6 (k:=k+1) (by omega) hx
   obtain⟨b1,b2,b3,b4,b5,z1,z2,z3,z4⟩:=Sl.at (show Sl h N v (dI (ds b)) from hv) (Zbe hx)
   have c1:((k:Int)+2-1)=(k:Int)+1:=by omega
   have c2:(k:Int)+1<(k:Int)+2:=by omega
   have c3:¬((k:Int)+2=1):=by omega
   have c4:((k:Int)+1).toNat=k+1:=by omega
   have c5:(0:Int)≤(k:Int)+1:=by omega
   have w1:Zap .i64 (x+1)=x+1:=Zak (by omega) (by omega)
   have w2:(1000000000:Int).tdiv (x+1)=f:=by rw[hf];exact Ytk (by decide)
   have w3:Zap .i64 (f:Int)=f:=Zak (by omega) (by omega)
   have c6:¬x+1=0:=by omega
   rw[hk]at lv
   simp(disch:=omega) [A.b148,hc,hcn,lv,Zae,c1,c2,c3,c4,c5,c6,z1,z3,z4,w1,w2,w3,splice]
   have k0:=(Keeps.refl (h:=h) (n:=N)).new (.cells [.int .i64 (f:Int)] 3 true)
   have hfr:Sl (h.set N (.cells [.int .i64 (f:Int)] 3 true)) (N+1) (.slice N 0 1 (some 1) 1) (dI [(f:Int)]):=Sl.row (e:=3) (rw:=true) (Ytm N) (by simp[dI]) rfl (fun k hk=>by simp at hk;omega)
   have dF:Di [(f:Int)]:=Di.one (by omega) (by omega)
   refine Zaf (Zs5 (a:=b) (b:=f) (Sl.keep hv k0) hfr (Zca b) dF (Zbb b) (by simp[vI]) (by simp;omega)) ?_
   rintro vv h1 n1 k1 hvv
   have kle1:=k1.le
   have lvv:=hvv.len
   have hlen':(ds (b*f)).length=k+2:=by omega
   rw[Zat,hlen']at lvv
   simp[lvv]
   have k1a:=(Keeps.refl (h:=h1) (n:=n1)).new (.cells [] 3 true)
   refine Zaf (Zs5 (a:=a) (b:=f) (((Sl.keep hu k0).keep k1).keep k1a) ((hfr.keep k1).keep k1a) (Zca a) dF (Zbb a) (by simp[vI]) (by simp;omega)) ?_
   rintro uu h2 n2 k2 huu
   have kle2:=k2.le
   have hne:ds (a*f)≠[]:=fun hc=>by
    rw[Zdr]at hc
    have:0<a*f:=Yvd (by omega) f0
    omega
   have hlaf:(ds (a*f)).length≤(ds a).length+1:=by
    apply Zfo
    have g1:=Zia (Zca a)
    rw[Zbb,Yhy]at g1
    have g2:a<1000000000^(ds a).length:=by exact_mod_cast g1
    rw[Ysr]
    exact Yut g2 f1
   have hemp:=(k2.get n1 (by omega)).trans (show _=some (.cells [] 3 true) by simp)
   have hap:=Zsf (w:=[]) hemp huu hne (by omega)
   simp[hap,lu]
   have hN2:N≤n2:=by omega
   have kk2:=(((k0.trans k1).trans k1a).trans k2)
   refine Zai [(11,11),(63,71)] (fun e r st=>e=.exit 0∧PdI N h2 n2 (ds a).length ((a*f:Nat):Int) 0 r st) (PdI N h2 n2 (ds a).length ((a*f:Nat):Int)) ((ds a).length+1-(ds (a*f)).length) ?_ ?_ ?_
   ·refine⟨by simp,Keeps.refl.new _,_,ds (a*f),by simp;rfl,⟨fun q hq=>?_,.inr ⟨n2,by rw[Zdm],Yr4 _,by show n2<n2+1;omega,by simp[Zko]⟩⟩,by omega,Zbb _,Zca _⟩
    simp[Zfb]at hq
    obtain⟨q',_,rfl⟩:=hq
    rfl
   ·exact Yff (((Sl.keep hu k0).keep k1).keep k1a |>.keep k2) rfl (by omega) (by simp)
   ·rintro _ r ⟨H,n3,W⟩ hr ⟨rfl,hW,hK,u3,l,h11,ho,hm,hval,hdl⟩
    simp only at hW hK ho
    obtain⟨_,⟨h0,_⟩|⟨iu,hu3,i1,i2,i3⟩⟩:=ho
    ·simp[Zfb]at h0;rw[h0]at hm;simp at hm
    ·rw[Zdm]at hu3
     rw[Zko]at i3
     subst hu3
     have hlu:l.length=(ds a).length+1:=by omega
     have hka:k+2<l.length:=by omega
     obtain⟨S,hS⟩:∃S,S=l.length-(k+2):=⟨_,rfl⟩
     have cS:((l.length:Int)-((k:Int)+2))=(S:Int):=by omega
     have oN:=Zgz hN2 hW
     have kH:=hK.new (.cells (dI (List.replicate S 0)) 3 true)
     have nle:=hK.le
     have mz:(Zke [.int .i64 0] S:List V)=dI (List.replicate S 0):=Zp7
     simp(disch:=first|(simp;done)|omega|rfl) [hr,h11,cS,mz]
     have hvY:=Dn.keep hvv (k1a.trans k2)
     have hval':vI l=(a*f:Nat):=hval
     refine Zai [(13,21),(82,191)] (fun e r st=>e=.exit 2∧OuI N h2 n2 iu n3 (n3+1) l.length (k+2) ((a*f:Nat):Int) (ds (b*f)) 0 r st) (OuI N h2 n2 iu n3 (n3+1) l.length (k+2) ((a*f:Nat):Int) (ds (b*f))) S ?_ ?_ ?_
     ·refine⟨l,List.replicate S 0,⟨oN,kH,rfl,?_,by simp⟩,by simp,rfl,by simp[hS],by omega,hdl,Di.zeros _,fun s h1 h2=>by omega,?_,fun s hs=>by simp[hs],by rw[Zpa,hval];simp⟩
      ·rw[T.get_set,Yr3 (by omega)];exact i3
      ·obtain⟨x',hx',x0,x1,lo,hi⟩:=Znc (b:=b) (k:=k+1) (by omega)
       have g1:=Zia (Zca a)
       rw[Zbb,show (ds a).length=S+(k+1) by omega,Zvi]at g1
       have g2:=Zi3 l S (by omega)
       have g3:=Zh9 (hdl.take S)
       have g4:pI (k+1)*1≤pI (k+1)*x':=Ysj (by omega) (Yt4 (Zjm _))
       have g5:pI S*pI (k+1)≤pI S*b:=Ysj (by omega) (Yt4 (Zjm _))
       have g6:(a:Int)*f<pI S*b*f:=Int.mul_lt_mul_of_pos_right (by omega) (by omega)
       rw[Zbb]
       apply Yvn
       intro hc
       have g7:pI S*((b*f:Nat):Int)≤pI S*vI (l.drop S):=Ysj hc (Yt4 (Zjm _))
       have g8:pI S*((b*f:Nat):Int)=pI S*b*f:=by push_cast;grind
       have g9:((a*f:Nat):Int)=(a:Int)*f:=by push_cast;rfl
       omega
     ·exact Yfh hvY hlen' (Zca _) hy1 hy5 hka (by omega) (by simp[hr]) (by simp[hr]) (by simp[hr,h11]) (by simp[hS]) hN2 i1 i2 (Ytm n3)
     ·rintro _ r4 ⟨H4,n4,W4⟩ hr4 ⟨rfl,U,Q,⟨hW4,hK4,hn4,ru4,rq4⟩,r13,hUl,hQl,_,dU,dQ,hz,hdr,_,hfin⟩
      simp only at hW4 hK4 hn4 ru4 rq4
      subst hn4
      rw[Yuj]at hdr
      rw[Zbb]at hdr hfin
      obtain⟨qn,hqn⟩:=Yua (Zh9 dQ)
      obtain⟨un,hun⟩:=Yua (Zh9 dU)
      rw[hqn,hun]at hfin
      rw[hun]at hdr
      have hfn:un+b*f*qn=a*f:=by exact_mod_cast hfin
      have hdn:un<b*f:=by exact_mod_cast hdr
      have m1:a/b=qn:=by
       have:a*f/(b*f)=qn:=by
        rw[←hfn,Nat.add_mul_div_left _ _ (by omega),Yuf hdn,Yul]
       rw[←this,Yvy _ _ f0]
      have m2:un/f=a%b:=by
       have:a*f%(b*f)=un:=by rw[←hfn,Nat.add_mul_mod_self_left,Yt3 hdn]
       rw[←this,Yvh,Nat.mul_div_cancel _ f0]
      have hsU:Sl H4 (n3+1) (.slice iu 0 l.length none 1) (dI U):=Sl.row (by omega) ru4 (by simp[hUl]) (fun k hk=>by cases hk)
      have hsQ:Sl H4 (n3+1) (.slice n3 0 S (some S) 1) (dI Q):=Sl.row (by omega) rq4 (by simp[hQl,hS]) (fun k hk=>by simp at hk;omega)
      obtain⟨v',e1,e2⟩:=Zjg (w:=[]) hsU (lo:=0) (hi:=k+2) (by omega) (by rw[Zat];omega) none (some (.int .i64 ((k+2:Nat):Int))) (.inr ⟨rfl,rfl⟩) (.inl rfl)
      have e3:((dI U).take (k+2)).drop 0=dI (U.take (k+2)):=by rw[Yuj,dI,←List.map_take];rfl
      rw[e3]at e2
      have ck:((k+2:Nat):Int)=(k:Int)+2:=by omega
      rw[ck]at e1
      have frow:=(hK4.get N (by omega)).trans ((k2.get N (by omega)).trans ((show _=h1.get N by simp;omega).trans ((k1.get N (by omega)).trans (show _=some (.cells [.int .i64 (f:Int)] 3 true) by simp))))
      have hdU2:vI (U.take (k+2))=un:=by
       rw[←hun]
       exact(Zgp (fun t h1 h2=>hz t (by omega) (by omega))).symm
      simp[hr,hr4,h11,Zcj,evOpt,e1]
      refine Zaf (Zf0 e2 (by simp;omega)) ?_
      rintro y5 h5 n5 k5 hy5'
      rw[Zfx (dU.take _) hdU2]at hy5'
      have kle5:=k5.le
      have frow5:=(k5.get N (by omega)).trans frow
      have lt5:N<n5:=by omega
      have lt4:iu<n3+1:=by omega
      have lenun:(ds un).length<1099511627776:=by
       have:(ds un).length≤(ds (b*f)).length:=Zcv (by omega)
       omega
      simp[hr,hr4,frow5]
      refine Zaf (Znd (d:=(f:Int)) hy5' (Zca un) lenun (by omega) (by omega)) ?_
      rintro y6 h6 n6 k6 ⟨q6,rfl,hq6⟩
      have t1:(vI (ds un)).toNat=un:=by rw[Zbb];omega
      have t2:((f:Nat):Int).toNat=f:=by omega
      rw[t1,t2]at hq6
      rw[m2]at hq6
      generalize ((vI (ds un)).toNat%(f:Int).toNat)=ZZ
      simp[hr,hr4,lt4,lt5]
      refine Zaf (Zf0 ((hsQ.keep k5).keep k6) (by omega)) ?_
      rintro y7 h7 n7 k7 hy7
      rw[Zfx dQ hqn]at hy7
      have oN4:Zad N W4=[]:=hW4
      have kall:=(((kk2.trans hK4).trans k5).trans k6).trans k7
      simp[hr,hr4,Ret,oN4]
      refine⟨kall,y7,q6,⟨rfl,rfl⟩,?_,?_⟩
      ·rw[m1];exact hy7
      ·exact Sl.keep hq6 k7
variable {s:Str}
def A.lb80_0:Zah:=.seq (sr [mv 7 1,ln 8 7,bc 9 .gtr 8 0]
 (cd 9
 (.skip)
 (.exit 0)))
 (.block 1 (sr [mv 11 0,mv 12 1,c2 13 148 11 12,mv 10 13,xt 14 10 0,xt 15 10 1,mv 5 14,mv 6 15]
 (.reg [mv 16 1,mv 17 6,mv 0 16,mv 1 17])))
def A.b80:Zah:=sr [mN 4]
 (.seq (.block 0 (.loop A.lb80_0))
 (sr [mv 18 0,mv 4 18]
 (.ret)))
def A.k80:=@A.kk 80 19 [.tmp 4] A.b80 (by kernel_rfl) rfl
def A.lb146_0:Zah:=.seq (sr [mv 16 0,ge 17 (.len 0 (tq 16)),bc 18 .gtr 17 9]
 (cd 18
 (.skip)
 (.exit 0)))
 (.block 1 (sr [mv 19 4,mv 20 0,mv 21 0,ge 22 (.len 0 (tq 21)),bc 23 .sub 22 9,ge 24 (.sliceStr (tq 20) (some (tq 23)) none),c1 25 196 24,ge 26 (.bslice 3 1 1 [.int .i64 0] [(0,1,(tq 25))]),ge 27 (.append 1 8 3 [.int .i64 0] (tq 19) (tq 26)),mv 4 27]
 (.reg [mv 28 0,mv 29 0,ge 30 (.len 0 (tq 29)),bc 31 .sub 30 9,ge 32 (.sliceStr (tq 28) none (some (tq 31))),mv 0 32])))
def A.b146:Zah:=sr [ge 2 (.alloc [.bool false,.nilslice] 176)]
 (sr [mv 5 0,ge 6 (.len 0 (tq 5)),bc 7 .gtr 6 0,mv 8 7,mg 9 0 8,gy 10 8 (.idxStr (tq 9) (kq 0)),gy 11 8 (.bin .eql (.prim .int) true (tq 10) (.const (.int .u8 45))),pf 12 8 11,mv 3 12]
 (.seq (sr [mv 13 3]
 (cd 13
 (.reg [mv 14 0,ge 15 (.sliceStr (tq 14) (some (kq 1)) none),mv 0 15])
 (.skip)))
 (sr [mN 4]
 (.seq (.block 0 (.loop A.lb146_0))
 (sr [mv 33 3,mv 34 4,mv 35 0,c1 36 196 35,ge 37 (.bslice 3 1 1 [.int .i64 0] [(0,1,(tq 36))]),ge 38 (.append 1 8 3 [.int .i64 0] (tq 34) (tq 37)),c2 39 197 33 38,gn (.store 2 (tq 2) (tq 39))]
 (.ret))))))
def A.k146:=@A.kk 146 40 [.cell 2 (some 2)] A.b146 (by kernel_rfl) rfl
def Zj5{h:T O}{N:Nat}{u v:V}{a b:Nat}(hu:Dn h N u a)(hv:Dn h N v b)(hl:(ds a).length<1000000000000)(hl2:(ds b).length<1000000000000):Fn A.C 80 [u,v] h N (fun x h' n'=>Dn h' n' x (Nat.gcd a b)):=by
 intro w
 rw[Zac,A.k80 (by simp)]
 simp[A.b80]
 refine Zai [(0,1),(5,17)] (fun e r st=>e=.exit 0∧Zad N st.w=[]∧Keeps h N st.h st.n∧∃x,r.get 0=some x∧Dn st.h st.n x (Nat.gcd a b)) (fun m r st=>Zad N st.w=[]∧Keeps h N st.h st.n∧∃x y c,r.get 0=some x∧r.get 1=some y∧Dn st.h st.n x c∧Dn st.h st.n y m∧Nat.gcd c m=Nat.gcd a b∧(ds c).length<1000000000000∧(ds m).length<1000000000000) b ?_ ?_ ?_
 ·exact⟨by simp,Keeps.refl,u,v,a,by simp,by simp,hu,hv,rfl,hl,hl2⟩
 ·rintro m r ⟨H,n1,W⟩ hr hf ⟨hW,hK,x,y,c,h0,h1,hx,hy,hg,l1,l2⟩
  simp only at hW hK hx hy
  have ly:=hy.len
  rw[Zat]at ly
  rw[Zaj]
  by_cases hm:m=0
  ·subst hm
   have z0:(ds 0).length=0:=by rw[Zcn];rfl
   rw[z0]at ly
   simp at hg
   simp[A.lb80_0,hr,hf,h0,h1,ly,hW,hK]
   rw[←hg];exact hx
  ·have hne:(ds m).length≠0:=fun hc=>hm (Zdr.1 (Ysh hc))
   have p1:(0:Int)<((ds m).length:Int):=by omega
   have p2:0<(ds m).length:=by omega
   have p3:ds m≠[]:=fun hc=>hne (by rw[hc];rfl)
   simp[A.lb80_0,hr,hf,h0,h1,ly,p1,p2,p3]
   refine Zaf (Zmk hx hy (by omega) l1 l2) ?_
   rintro z h3 n3 k3 ⟨q,r',rfl,hq,hr'⟩
   simp[hr,hf,h0,h1,hW]
   refine⟨c%m,Ys9 _ (by omega),hK.trans k3,m,hy.keep k3,hr',?_,l2,?_⟩
   ·rw[←hg,Nat.gcd_comm c m,Nat.gcd_rec m c,Nat.gcd_comm]
   ·have:=Zcv (a:=c%m) (b:=m) (Nat.le_of_lt (Ys9 _ (by omega)));omega
 ·rintro _ r ⟨H,n1,W⟩ hr ⟨rfl,hW,hK,x,h0,hx⟩
  simp only at hW hK hx
  simp[hr,h0,Ret,hW,hK]
  exact hx
def Zvn(x:Str):∀(y:Str),numV (x++y)=numV x*10^y.length+numV y:=by
 have key:∀(y:Str) (n:Nat),y.foldl (fun n (c:UInt8)=>10*n+(c.toNat-48)) n=n*10^y.length+y.foldl (fun n (c:UInt8)=>10*n+(c.toNat-48)) 0:=by
  intro y
  induction y with
  |nil=>simp
  |cons c y ih=>
   intro n
   rw[List.foldl_cons,List.foldl_cons,ih,ih (10*0+(c.toNat-48)),Yr2,Ysr]
   grind
 intro y
 unfold numV
 rw[List.foldl_append,key]
def Zsg(h:Zb8 s=true)(k:Nat):Zb8 (s.take k)=true:=by
 unfold Zb8 at*
 rw[Ys4]at*
 exact fun c hc=>h c (Ytn hc)
def Zkb(h:Zb8 s=true)(k:Nat):Zb8 (s.drop k)=true:=by
 unfold Zb8 at*
 rw[Ys4]at*
 exact fun c hc=>h c (Yvk hc)
def PsI(h0:T O)(N:Nat)(s:Str)(m:Nat)(r:T V)(st:St):Prop:=Zad N st.w=[]∧Keeps h0 N st.h st.n∧∃cur w l,r.get 0=some (.str cur)∧cur.length=m∧1≤m∧m≤s.length∧Zb8 cur=true∧r.get 4=some w∧Own 1 3 N st.h st.n w (Zfb l)∧Di l∧l.length+m≤s.length∧vI l+pI l.length*(numV cur:Nat)=(numV s:Nat)
def Zlu(hd:Zb8 s=true)(h1:1≤s.length)(h2:s.length≤3000000000){h:T O}{N:Nat}:Fn A.C 146 [.str s] h N (fun v h' n'=>Rg h' n' v (numV s:Nat)):=by
 intro w
 obtain⟨c,hc⟩:=Zag (l:=s) (k:=0) (by omega)
 have hcd:=Zka hd hc
 have hc0:s.head?=some c:=by cases s with
  |nil=>simp at hc
  |cons=>simpa using hc
 have a1:¬u8I c=45:=by omega
 have a2:(0:Int)<(s.length:Int):=by omega
 have a3:0<s.length:=by omega
 have hne:s≠[]:=fun h=>by rw[h]at h1;simp at h1
 rw[Zac,A.k146 (by simp)]
 simp(disch:=first|(simp;done)|omega|rfl) [-getElem?_pos,A.b146,a1,a2,a3,hne,hc0,hc,Zae]
 refine Zai [(0,0),(4,4),(16,32)] (fun e r st=>e=.exit 0∧∃m,m≤9∧PsI (h.set N (.cells [.bool false,.nilslice] 176 true)) (N+1) s m r st) (PsI (h.set N (.cells [.bool false,.nilslice] 176 true)) (N+1) s) s.length ?_ ?_ ?_
 ·exact⟨by simp,Keeps.refl,s,.nilslice,[],by simp,rfl,h1,Yr4 _,hd,by simp,Own.nil,Di.nil,by simp,by simp[vI,pI]⟩
 ·rintro m r ⟨H,n1,W⟩ hr hf ⟨hW,hK,cur,u,l,g0,hcl,m1,m2,hcd,g4,ho,hdi,hll,hv⟩
  simp only at hW hK ho
  subst hcl
  rw[Zaj]
  by_cases h9:9<cur.length
  ·have h9':(9:Int)<(cur.length:Int):=by omega
   have nle:=hK.le
   have hvd:=Zi1 (s:=cur.drop (cur.length-9)) (st:=⟨H,n1,W⟩) (Zkb hcd _) (by simp;omega)
   have hcn:((cur.length:Int)-9).toNat=cur.length-9:=by omega
   have hnv:=Zd9 (Zkb hcd (cur.length-9))
   have hdl:(cur.drop (cur.length-9)).length=9:=by simp;omega
   rw[hdl]at hnv
   have hsp:=Zvn (cur.take (cur.length-9)) (cur.drop (cur.length-9))
   rw[Yt6,hdl,show (10:Nat)^9=1000000000 by decide]at hsp
   generalize hD:numV (cur.drop (cur.length-9))=D at*
   obtain⟨v',h',w',e1,e2,e3,e4,e5⟩:=Zbi (x:=[.int .i64 (D:Int)]) (u:=.slice n1 0 1 (some 1) 1) (bytes:=8) (w:=W) (ho.keep (Keeps.refl.new (.cells [.int .i64 (D:Int)] 3 true))) (by omega) (by decide) rfl (by simp[Zax,St.row,slc]) (by rw[Zdm];omega)
   rw[←Zde]at e5
   simp(disch:=first|(simp;done)|omega|rfl) [A.lb146_0,hr,hf,g0,g4,h9,h9',hcn,evOpt,hvd,splice,e1]
   refine⟨cur.length-9,by omega,⟨by rw[e2];exact hW,(hK.new _).then e3,cur.take (cur.length-9),v',l++[(D:Int)],by simp,by simp,by omega,by omega,Zsg hcd _,by simp,e5,hdi.app (Di.one (by omega) (by omega)),by simp;omega,?_⟩⟩
   rw[Zfv,Ysn,Ytu,Zc5,←hv]
   have hsp':((numV cur:Nat):Int)=(numV (cur.take (cur.length-9)):Nat)*1000000000+D:=by omega
   rw[hsp']
   generalize ((numV (cur.take (cur.length-9)):Nat):Int)=X
   generalize pI l.length=P
   grind
  ·have h9':¬(9:Int)<(cur.length:Int):=by omega
   simp[A.lb146_0,hr,hf,g0,h9,h9']
   exact⟨cur.length,by omega,hW,hK,cur,u,l,by simp[g0],rfl,m1,m2,hcd,by simp[g4],ho,hdi,hll,hv⟩
 ·rintro _ r ⟨H,n1,W⟩ hr ⟨rfl,m,m9,hW,hK,cur,u,l,g0,hcl,m1,m2,hcd,g4,ho,hdi,hll,hv⟩
  simp only at hW hK ho
  subst hcl
  have nle:=hK.le
  have hvd:=Zi1 (s:=cur) (st:=⟨H,n1,W⟩) hcd (by omega)
  have hnv:=Zd9 hcd
  have hp9:=Zvk m9
  generalize hD:numV cur=D at*
  obtain⟨v',h',w',e1,e2,e3,e4,e5⟩:=Zbi (x:=[.int .i64 (D:Int)]) (u:=.slice n1 0 1 (some 1) 1) (bytes:=8) (w:=W) (ho.keep (Keeps.refl.new (.cells [.int .i64 (D:Int)] 3 true))) (by omega) (by decide) rfl (by simp[Zax,St.row,slc]) (by rw[Zdm];omega)
  rw[←Zde]at e5
  simp[hr,g0,g4,hvd,splice,e1]
  have hdi2:Di (l++[(D:Int)]):=hdi.app (Di.one (by omega) (by omega))
  refine Zaf (Zbz (n:=numV s) e5.sl hdi2 (by rw[Zfv];exact hv) (by simp;omega)) ?_
  rintro y h5 n5 k5 hy
  have kk:=((hK.new (.cells [.int .i64 (D:Int)] 3 true)).then e3).trans k5
  have kle:=kk.le
  have nrow:=kk.get N (by omega)
  simp at nrow
  obtain⟨u5,rfl,hu5⟩:=hy
  have hu6:=fun c1 (hc:c1.length=2)=>Sl.setInt (i:=N) (c1:=c1) (e1:=176) (w1:=true) hu5 nrow (by intro x hx k m;simp at hx;rcases hx with rfl|rfl<;>simp) hc
  have huo:=Sl.form hu5 |>.one
  unfold V.one at huo
  have ow:Zad N w'=[]:=Zgz (Yuw N) (by rw[e2];exact hW)
  have k0:=(Keeps.refl (h:=h) (n:=N)).new (.cells [.bool false,.nilslice] 176 true)
  simp[hr,nrow,splice,Zal,huo,Zam,slc,Ret,ow]
  exact⟨(k0.trans kk).set (Yr4 N),u5,by simp,by simpa[Dn]using hu6 _ rfl⟩
end Go.Mx
