/-lensletref01-/
import Derived.Test.YtjjmkflbfpeagaaGreatDoorRbG
set_option linter.all false
namespace Go.Mx
noncomputable section
open Go Go.Proofs
set_option maxRecDepth 1000000
def Yia{r:Nat}(h:r<1000000000):oP [(r:Int)]=ds r:=CQ (Di.one (by omega) (by omega)) (by simp[vI])
def Lw{h:T O}{N:Nat}{u v:V}{a b:Nat}(hu:Dn h N u a)(hv:Dn h N v b)(hb:0<b)(hl:(ds a).length<1000000000000)(pW:(ds b).length<1000000000000):Fn A.C 86 [u,v] h N (fun x h' n'=>∃q r,x=.aY [q,r]/\Dn h' n' q (a/b)/\Dn h' n' r (a%b)):=by
 intro w
 have lu:=hu.len
 have lv:=hv.len
 rw[f_]at lu lv
 rw[aQ,A.k86 (by simp)]
 by_cases kh:a<b
 ·have ga:yR a b= -1:=by simp[yR,kh]
  have hc:=fun w=>Qo (w:=w) hu hv (by omega) (by omega)
  simp[A.b86,hc,ga,aA]
  refine⟨ad.refl,.aa,u,⟨rfl,rfl⟩,?_,?_⟩
  ·rw[xC kh];unfold Dn;rw[qq];exact Sl.nil
  ·rw[vw kh];exact hu
 ·have hba:b<=a:=by omega
  have nL:=qX hba
  have hc:=fun w=>Qo (w:=w) hu hv (by omega) (by omega)
  have AN:¬yR a b<0:=by unfold yR;rw[aq kh];split<;>omega
  have Ht:1<=(ds b).length:=by
   have:ds b≠[]:=fun hc=>by rw[zV]at hc;omega
   exact List.length_pos_iff.2 this
  by_cases hL:(ds b).length=1
  ·obtain⟨x,hx⟩:=eA (l:=ds b) (k:=0) (by omega)
   have hbx:ds b=[x]:=by
    cases hq:ds b with
    |nil=>rw[hq]at hL;simp at hL
    |cons y l=>
     rw[hq]at hL hx
     simp at hL hx
     rw[hL,hx]
   have zB:=fQ b
   rw[hbx]at zB
   simp[vI]at zB
   have HL:=(fJ b).get hx
   obtain⟨b1,b2,b3,b4,b5,z1,z2,z3,z4⟩:=Sl.at (show Sl h N v (dI (ds b)) from hv) (fU hx)
   simp at z4
   simp[A.b86,hc,AN,lv,hL,z1,z3,z4]
   refine au (WH (show Sl h N u (dI (ds a)) from hu) (fJ a) (by omega) (by omega) HL.2) ?_
   rintro y h1 n1 k1 ⟨q,rfl,hq⟩
   rw[fQ]at hq
   simp only[fQ]
   have e1:(a:Int).toNat=a:=by omega
   have e2:x.toNat=b:=by omega
   rw[e1,e2]at hq
   rw[e1,e2]
   have hRb:=jO a hb
   generalize hQ:a/b=Q at*
   generalize hR:a%b=R at*
   simp[ag]
   refine au (CO (l:=[(R:Int)]) (Sl.row (e:=3) (rw:=true) (cp:=some 1) (q9 n1) (by simp[dI]) rfl (fun k hk=>by simp at hk;omega)) (by simp)) ?_
   rintro y2 h2 n2 k2 uH
   rw[Yia (by omega)]at uH
   have kk:=(ad.refl (h:=h1) (n:=n1)).new (.cells [.int .i64 (R:Int)] 3 true)
   simp[aA]
   exact⟨(k1.trans kk).trans k2,q,y2,⟨rfl,rfl⟩,hq.ae (kk.trans k2),uH⟩
  ·obtain⟨k,hk⟩:∃k,(ds b).length=k+2:=⟨(ds b).length-2,by omega⟩
   obtain⟨x,hx⟩:=eA (l:=ds b) (k:=k+1) (by omega)
   have HL:=(fJ b).get hx
   obtain⟨f,hf,f0,f1,hlen,y1,qf,O8⟩:=Yj9 (k:=k+1) (by omega) hx
   obtain⟨b1,b2,b3,b4,b5,z1,z2,z3,z4⟩:=Sl.at (show Sl h N v (dI (ds b)) from hv) (fU hx)
   have c1:((k:Int)+2-1)=(k:Int)+1:=by omega
   have c3:¬((k:Int)+2=1):=by omega
   have c4:((k:Int)+1).toNat=k+1:=by omega
   have w1:bb .i64 (x+1)=x+1:=cb (by omega) (by omega)
   have w2:(1000000000:Int).tdiv (x+1)=f:=by rw[hf];exact yS (by decide)
   have w3:bb .i64 (f:Int)=f:=cb (by omega) (by omega)
   have c6:¬x+1=0:=by omega
   rw[hk]at lv
   simp(disch:=omega) [A.b86,hc,AN,lv,c1,c3,c4,z1,z3,z4,w1,w2,w3,ag]
   have k0:=(ad.refl (h:=h) (n:=N)).new (.cells [.int .i64 (f:Int)] 3 true)
   have wL:Sl (h.set N (.cells [.int .i64 (f:Int)] 3 true)) (N+1) (.slice N 0 1 (some 1) 1) (dI [(f:Int)]):=Sl.row (e:=3) (rw:=true) (q9 N) (by simp[dI]) rfl (fun k hk=>by simp at hk;omega)
   have dF:Di [(f:Int)]:=Di.one (by omega) (by omega)
   refine au (Qt (a:=b) (b:=f) (Sl.ae hv k0) wL (fJ b) dF (fQ b) (by simp[vI]) (by simp;omega)) ?_
   rintro vv h1 n1 k1 hvv
   have eS:=k1.le
   have lvv:=hvv.len
   have eQ:(ds (b*f)).length=k+2:=by omega
   rw[f_,eQ]at lvv
   simp[lvv]
   have k1a:=(ad.refl (h:=h1) (n:=n1)).new (.cells [] 3 true)
   refine au (Qt (a:=a) (b:=f) (((Sl.ae hu k0).ae k1).ae k1a) ((wL.ae k1).ae k1a) (fJ a) dF (fQ a) (by simp[vI]) (by simp;omega)) ?_
   rintro uu h2 n2 k2 huu
   have gF:=k2.le
   have bK:ds (a*f)≠[]:=fun hc=>by
    rw[zV]at hc
    have:0<a*f:=sh (by omega) f0
    omega
   have zaP:(ds (a*f)).length<=(ds a).length+1:=by
    apply G5
    have g1:=rK (fJ a)
    rw[fQ,Yhv]at g1
    have g2:a<1000000000^(ds a).length:=by exact_mod_cast g1
    rw[fv]
    exact Ap g2 f1
   have VX:=(k2.get n1 (by omega)).trans (show _=some (.cells [] 3 true) by simp)
   have I3:=Zsh (w:=[]) VX huu bK (by omega)
   simp[I3]
   have tm:N<=n2:=by omega
   have KW:=(((k0.trans k1).trans k1a).trans k2)
   refine cX [(11,11),(63,71)] (fun e r st=>e=.exit 0/\Lv N h2 n2 (ds a).length ((a*f:Nat):Int) 0 r st) (Lv N h2 n2 (ds a).length ((a*f:Nat):Int)) ((ds a).length+1-(ds (a*f)).length) ?_ ?_ ?_
   ·refine⟨by simp,ad.refl.new _,_,ds (a*f),by simp;rfl,⟨fun q hq=>?_,.inr ⟨n2,by rw[A3],aR _,by show n2<n2+1;omega,by simp[TV]⟩⟩,by omega,fQ _,fJ _⟩
    simp[nQ]at hq
    obtain⟨q',_,rfl⟩:=hq
    rfl
   ·exact Yfk (((Sl.ae hu k0).ae k1).ae k1a |>.ae k2) rfl (by omega) (by simp)
   ·rintro _ r ⟨H,n3,W⟩ hr ⟨rfl,hW,hK,u3,l,jW,ho,hm,ix,lA⟩
    simp only at hW hK ho
    obtain⟨_,⟨h0,_⟩|⟨iu,Hq,i1,i2,i3⟩⟩:=ho
    ·simp[nQ]at h0;rw[h0]at hm;simp at hm
    ·rw[A3]at Hq
     rw[TV]at i3
     subst Hq
     have Ug:l.length=(ds a).length+1:=by omega
     have hka:k+2<l.length:=by omega
     obtain⟨S,hS⟩:∃S,S=l.length-(k+2):=⟨_,rfl⟩
     have cS:((l.length:Int)-((k:Int)+2))=(S:Int):=by omega
     have oN:=Lu tm hW
     have kH:=hK.new (.cells (dI (List.replicate S 0)) 3 true)
     have gJ:=hK.le
     have mz:(df [.int .i64 0] S:List V)=dI (List.replicate S 0):=Qp
     simp(disch:=first|(simp;done)|omega|rfl) [hr,jW,cS,mz]
     have hvY:=Dn.ae hvv (k1a.trans k2)
     have zae:vI l=(a*f:Nat):=ix
     refine cX [(13,21),(82,191)] (fun e r st=>e=.exit 2/\Lk N h2 n2 iu n3 (n3+1) l.length (k+2) ((a*f:Nat):Int) (ds (b*f)) 0 r st) (Lk N h2 n2 iu n3 (n3+1) l.length (k+2) ((a*f:Nat):Int) (ds (b*f))) S ?_ ?_ ?_
     ·refine⟨l,List.replicate S 0,⟨oN,kH,rfl,?_,by simp⟩,by simp,rfl,by simp[hS],by omega,lA,Di.BA _,fun s h1 h2=>by omega,?_,fun s hs=>by simp[hs],by rw[Qu,ix];simp⟩
      ·rw[T.ai,aq (by omega)];exact i3
      ·obtain⟨x',nz,x0,x1,lo,hi⟩:=VW (b:=b) (k:=k+1) (by omega)
       have g1:=rK (fJ a)
       rw[fQ,show (ds a).length=S+(k+1) by omega,Mv]at g1
       have g2:=HK l S (by omega)
       have g3:=rL (lA.take S)
       have g4:pI (k+1)*1<=pI (k+1)*x':=oQ (by omega) (qY (zY _))
       have g5:pI S*pI (k+1)<=pI S*b:=oQ (by omega) (qY (zY _))
       have g6:(a:Int)*f<pI S*b*f:=Int.mul_lt_mul_of_pos_right (by omega) (by omega)
       rw[fQ]
       apply Gz
       intro hc
       have g7:pI S*((b*f:Nat):Int)<=pI S*vI (l.drop S):=oQ hc (qY (zY _))
       have g8:pI S*((b*f:Nat):Int)=pI S*b*f:=by push_cast;grind
       have g9:((a*f:Nat):Int)=(a:Int)*f:=by push_cast;rfl
       omega
     ·exact Yfm hvY eQ (fJ _) qf O8 hka (by omega) (by simp[hr]) (by simp[hr]) (by simp[jW]) (by simp[hS]) tm i1 i2 (q9 n3)
     ·rintro _ r4 ⟨H4,n4,W4⟩ y_ ⟨rfl,U,Q,⟨EU,Hs,Ln,Lo,Lp⟩,kK,hUl,hQl,_,dU,dQ,hz,uV,_,tF⟩
      simp only at EU Hs Ln Lo Lp
      subst Ln
      rw[yO]at uV
      rw[fQ]at uV tF
      obtain⟨qn,hqn⟩:=Bz (rL dQ)
      obtain⟨un,VY⟩:=Bz (rL dU)
      rw[hqn,VY]at tF
      rw[VY]at uV
      have zE:un+b*f*qn=a*f:=by exact_mod_cast tF
      have uD:un<b*f:=by exact_mod_cast uV
      have m1:a/b=qn:=by
       have:a*f/(b*f)=qn:=by
        rw[<-zE,Nat.add_mul_div_left _ _ (by omega),xC uD,vW]
       rw[<-this,Nd _ _ f0]
      have m2:un/f=a%b:=by
       have:a*f%(b*f)=un:=by rw[<-zE,Nat.add_mul_mod_self_left,vw uD]
       rw[<-this,IG,Nat.mul_div_cancel _ f0]
      have Ul:Sl H4 (n3+1) (.slice iu 0 l.length none 1) (dI U):=Sl.row (by omega) Lo (by simp[hUl]) (fun k hk=>by cases hk)
      have hsQ:Sl H4 (n3+1) (.slice n3 0 S (some S) 1) (dI Q):=Sl.row (by omega) Lp (by simp[hQl,hS]) (fun k hk=>by simp at hk;omega)
      obtain⟨v',e1,e2⟩:=Mq (w:=[]) Ul (lo:=0) (hi:=k+2) (by omega) (by rw[f_];omega) none (some (.int .i64 ((k+2:Nat):Int))) (.inr ⟨rfl,rfl⟩) (.inl rfl)
      have e3:((dI U).take (k+2)).drop 0=dI (U.take (k+2)):=by rw[yO,dI,<-List.map_take];rfl
      rw[e3]at e2
      have ck:((k+2:Nat):Int)=(k:Int)+2:=by omega
      rw[ck]at e1
      have VZ:=(Hs.get N (by omega)).trans ((k2.get N (by omega)).trans ((show _=h1.get N by simp;omega).trans ((k1.get N (by omega)).trans (show _=some (.cells [.int .i64 (f:Int)] 3 true) by simp))))
      have V0:vI (U.take (k+2))=un:=by
       rw[<-VY]
       exact(TQ (fun t h1 h2=>hz t (by omega) (by omega))).symm
      simp[hr,y_,jW,HH,az,e1]
      refine au (CO e2 (by simp;omega)) ?_
      rintro y5 h5 n5 k5 Lx
      rw[CQ (dU.take _) V0]at Lx
      have Fu:=k5.le
      have Ly:=(k5.get N (by omega)).trans VZ
      have lt5:N<n5:=by omega
      have lt4:iu<n3+1:=by omega
      have Lz:(ds un).length<1099511627776:=by
       have:(ds un).length<=(ds (b*f)).length:=qX (by omega)
       omega
      simp[hr,y_,Ly]
      refine au (WH (d:=(f:Int)) Lx (fJ un) Lz (by omega) (by omega)) ?_
      rintro y6 h6 n6 k6 ⟨q6,rfl,Kz⟩
      have t1:(vI (ds un)).toNat=un:=by rw[fQ];omega
      have t2:((f:Nat):Int).toNat=f:=by omega
      rw[t1,t2]at Kz
      rw[m2]at Kz
      generalize ((vI (ds un)).toNat%(f:Int).toNat)=ZZ
      simp[y_,lt5]
      refine au (CO ((hsQ.ae k5).ae k6) (by omega)) ?_
      rintro y7 h7 n7 k7 hy7
      rw[CQ dQ hqn]at hy7
      have oN4:aB N W4=[]:=EU
      have V1:=(((KW.trans Hs).trans k5).trans k6).trans k7
      simp[aA,oN4]
      refine⟨V1,y7,q6,⟨rfl,rfl⟩,?_,?_⟩
      ·rw[m1];exact hy7
      ·exact Sl.ae Kz k7
variable {s:aU}
def A.w39:=A.q Tryz.f39
def A.tH:=A.ql A.w39 0 []
def A.b39:=(fun x0=>A.qb A.w39 [x0]) A.tH
def A.k39:=@A.kk 39 19 [.tmp 4] A.b39 (by kernel_rfl) rfl
def A.w84:=A.q Tryz.f84
def A.nf:=A.ql A.w84 0 []
def A.b84:=(fun x0=>A.qb A.w84 [x0]) A.nf
def A.k84:=@A.kk 84 40 [.cell 2 (some 2)] A.b84 (by kernel_rfl) rfl
def O9{h:T O}{N:Nat}{u v:V}{a b:Nat}(hu:Dn h N u a)(hv:Dn h N v b)(hl:(ds a).length<1000000000000)(pW:(ds b).length<1000000000000):Fn A.C 39 [u,v] h N (fun x h' n'=>Dn h' n' x (Nat.gcd a b)):=by
 intro w
 rw[aQ,A.k39 (by simp)]
 simp[A.b39]
 refine cX [(0,1),(5,17)] (fun e r st=>e=.exit 0/\aB N st.w=[]/\ad h N st.h st.n/\∃x,r.get 0=some x/\Dn st.h st.n x (Nat.gcd a b)) (fun m r st=>aB N st.w=[]/\ad h N st.h st.n/\∃x y c,r.get 0=some x/\r.get 1=some y/\Dn st.h st.n x c/\Dn st.h st.n y m/\Nat.gcd c m=Nat.gcd a b/\(ds c).length<1000000000000/\(ds m).length<1000000000000) b ?_ ?_ ?_
 ·exact⟨by simp,ad.refl,u,v,a,by simp,by simp,hu,hv,rfl,hl,pW⟩
 ·rintro m r ⟨H,n1,W⟩ hr hf ⟨hW,hK,x,y,c,h0,h1,hx,hy,hg,l1,l2⟩
  simp only at hW hK hx hy
  have ly:=hy.len
  rw[f_]at ly
  rw[cm]
  by_cases hm:m=0
  ·subst hm
   have z0:(ds 0).length=0:=by rw[qq];rfl
   rw[z0]at ly
   simp at hg
   simp[A.tH,hf,h0,h1,ly,hW,hK]
   rw[<-hg];exact hx
  ·have bK:(ds m).length≠0:=fun hc=>hm (zV.1 (pV hc))
   have p1:(0:Int)<((ds m).length:Int):=by omega
   have p2:0<(ds m).length:=by omega
   have p3:ds m≠[]:=fun hc=>bK (by rw[hc];rfl)
   simp[A.tH,h0,h1,ly,p2]
   refine au (Lw hx hy (by omega) l1 l2) ?_
   rintro z h3 n3 k3 ⟨q,r',rfl,hq,iA⟩
   simp[hf,h1,hW]
   refine⟨c%m,jO _ (by omega),hK.trans k3,m,hy.ae k3,iA,?_,l2,?_⟩
   ·rw[<-hg,Nat.gcd_comm c m,Nat.gcd_rec m c,Nat.gcd_comm]
   ·have:=qX (a:=c%m) (b:=m) (Nat.le_of_lt (jO _ (by omega)));omega
 ·rintro _ r ⟨H,n1,W⟩ hr ⟨rfl,hW,hK,x,h0,hx⟩
  simp only at hW hK hx
  simp[h0,aA,hW,hK]
  exact hx
def Zvs(x:aU):∀(y:aU),aD (x++y)=aD x*10^y.length+aD y:=by
 have key:∀(y:aU) (n:Nat),y.foldl (fun n (c:UInt8)=>10*n+(c.toNat-48)) n=n*10^y.length+y.foldl (fun n (c:UInt8)=>10*n+(c.toNat-48)) 0:=by
  intro y
  induction y with
  |nil=>simp
  |cons c y ih=>
   intro n
   rw[List.foldl_cons,List.foldl_cons,ih,ih (10*0+(c.toNat-48)),bf,fv]
   grind
 intro y
 unfold aD
 rw[List.foldl_append,key]
def Zsj(h:cF s=true)(k:Nat):cF (s.take k)=true:=by
 unfold cF at*
 rw[sJ]at*
 exact fun c hc=>h c (Ae hc)
def Pa(h:cF s=true)(k:Nat):cF (s.drop k)=true:=by
 unfold cF at*
 rw[sJ]at*
 exact fun c hc=>h c (List.mem_of_mem_drop hc)
def Pb(h0:T O)(N:Nat)(s:aU)(m:Nat)(r:T V)(st:St):Prop:=aB N st.w=[]/\ad h0 N st.h st.n/\∃cur w l,r.get 0=some (.str cur)/\cur.length=m/\1<=m/\m<=s.length/\cF cur=true/\r.get 4=some w/\Own 1 3 N st.h st.n w (nQ l)/\Di l/\l.length+m<=s.length/\vI l+pI l.length*(aD cur:Nat)=(aD s:Nat)
def Pc(hd:cF s=true)(h1:1<=s.length)(h2:s.length<=3000000000){h:T O}{N:Nat}:Fn A.C 84 [.str s] h N (fun v h' n'=>Rg h' n' v (aD s:Nat)):=by
 intro w
 obtain⟨c,hc⟩:=eA (l:=s) (k:=0) (by omega)
 have nE:=Hz hd hc
 have ga:s.head?=some c:=by cases s with
  |nil=>simp at hc
  |cons=>simpa using hc
 have a1:¬cJ c=45:=by omega
 have a2:(0:Int)<(s.length:Int):=by omega
 have a3:0<s.length:=by omega
 have bK:s≠[]:=fun h=>by rw[h]at h1;simp at h1
 rw[aQ,A.k84 (by simp)]
 simp(disch:=first|(simp;done)|omega|rfl) [-getElem?_pos,A.b84,a1,a3,hc]
 refine cX [(0,0),(4,4),(16,32)] (fun e r st=>e=.exit 0/\∃m,m<=9/\Pb (h.set N (.cells [.bool false,.aa] 88 true)) (N+1) s m r st) (Pb (h.set N (.cells [.bool false,.aa] 88 true)) (N+1) s) s.length ?_ ?_ ?_
 ·exact⟨by simp,ad.refl,s,.aa,[],by simp,rfl,h1,aR _,hd,by simp,Own.nil,Di.nil,by simp,by simp[vI,pI]⟩
 ·rintro m r ⟨H,n1,W⟩ hr hf ⟨hW,hK,cur,u,l,g0,dM,m1,m2,nE,g4,ho,ib,El,hv⟩
  simp only at hW hK ho
  subst dM
  rw[cm]
  by_cases h9:9<cur.length
  ·have FB:(9:Int)<(cur.length:Int):=by omega
   have gJ:=hK.le
   have FC:=Hy (s:=cur.drop (cur.length-9)) (st:=⟨H,n1,W⟩) (Pa nE _) (by simp;omega)
   have AN:((cur.length:Int)-9).toNat=cur.length-9:=by omega
   have CI:=zO (Pa nE (cur.length-9))
   have lA:(cur.drop (cur.length-9)).length=9:=by simp;omega
   rw[lA]at CI
   have iP:=Zvs (cur.take (cur.length-9)) (cur.drop (cur.length-9))
   rw[yW,lA,show (10:Nat)^9=1000000000 by decide]at iP
   generalize hD:aD (cur.drop (cur.length-9))=D at*
   obtain⟨v',h',w',e1,e2,e3,e4,e5⟩:=zH (x:=[.int .i64 (D:Int)]) (u:=.slice n1 0 1 (some 1) 1) (bytes:=8) (w:=W) (ho.ae (ad.refl.new (.cells [.int .i64 (D:Int)] 3 true))) (by omega) (by decide) rfl (by simp[iQ,St.row,aM]) (by rw[A3];omega)
   rw[<-Cn]at e5
   simp(disch:=first|(simp;done)|omega|rfl) [A.nf,hf,g0,g4,FB,AN,az,FC,ag,e1]
   refine⟨cur.length-9,by omega,⟨by rw[e2];exact hW,(hK.new _).then e3,cur.take (cur.length-9),v',l++[(D:Int)],by simp,by simp,by omega,by omega,Zsj nE _,by simp,e5,ib.app (Di.one (by omega) (by omega)),by simp;omega,?_⟩⟩
   rw[AZ,iy,xA,rP,<-hv]
   have FD:((aD cur:Nat):Int)=(aD (cur.take (cur.length-9)):Nat)*1000000000+D:=by omega
   rw[FD]
   generalize ((aD (cur.take (cur.length-9)):Nat):Int)=X
   generalize pI l.length=P
   grind
  ·have FB:¬(9:Int)<(cur.length:Int):=by omega
   simp[A.nf,hf,g0,FB]
   exact⟨cur.length,by omega,hW,hK,cur,u,l,by simp[g0],rfl,m1,m2,nE,by simp[g4],ho,ib,El,hv⟩
 ·rintro _ r ⟨H,n1,W⟩ hr ⟨rfl,m,m9,hW,hK,cur,u,l,g0,dM,m1,m2,nE,g4,ho,ib,El,hv⟩
  simp only at hW hK ho
  subst dM
  have gJ:=hK.le
  have FC:=Hy (s:=cur) (st:=⟨H,n1,W⟩) nE (by omega)
  have CI:=zO nE
  have hp9:=Mp m9
  generalize hD:aD cur=D at*
  obtain⟨v',h',w',e1,e2,e3,e4,e5⟩:=zH (x:=[.int .i64 (D:Int)]) (u:=.slice n1 0 1 (some 1) 1) (bytes:=8) (w:=W) (ho.ae (ad.refl.new (.cells [.int .i64 (D:Int)] 3 true))) (by omega) (by decide) rfl (by simp[iQ,St.row,aM]) (by rw[A3];omega)
  rw[<-Cn]at e5
  simp[hr,g0,g4,FC,ag,e1]
  have jJ:Di (l++[(D:Int)]):=ib.app (Di.one (by omega) (by omega))
  refine au (tO (n:=aD s) e5.sl jJ (by rw[AZ];exact hv) (by simp;omega)) ?_
  rintro y h5 n5 k5 hy
  have kk:=((hK.new (.cells [.int .i64 (D:Int)] 3 true)).then e3).trans k5
  have vT:=kk.le
  have nh:=kk.get N (by omega)
  simp at nh
  obtain⟨u5,rfl,yz⟩:=hy
  have Fo:=fun c1 (hc:c1.length=2)=>Sl.setInt (i:=N) (c1:=c1) (e1:=88) (w1:=true) yz nh (by intro x hx k m;simp at hx;rcases hx with rfl|rfl<;>simp) hc
  have yQ:=Sl.form yz |>.one
  unfold V.one at yQ
  have ow:aB N w'=[]:=Lu (wC N) (by rw[e2];exact hW)
  have k0:=(ad.refl (h:=h) (n:=N)).new (.cells [.bool false,.aa] 88 true)
  simp[hr,nh,ag,bS,yQ,aL,aM,aA,ow]
  exact⟨(k0.trans kk).set (aR N),u5,by simp,by simpa[Dn]using Fo _ rfl⟩
end
end Go.Mx
