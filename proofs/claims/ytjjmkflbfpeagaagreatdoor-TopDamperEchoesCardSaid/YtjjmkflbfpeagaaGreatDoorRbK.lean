/-lensletref01-/
import Derived.Test.YtjjmkflbfpeagaaGreatDoorRbH
set_option linter.all false
namespace Go.Mx
noncomputable section
open Go Go.Proofs
variable {s:aU}
set_option maxRecDepth 1000000
def A.b38:=A.q Tryz.f38
def A.k38:=@A.kk 38 25 [.cell 2 (some 2),.cell 3 (some 2)] A.b38 (by kernel_rfl) rfl
def A.b11:=A.q Tryz.f11
def A.k11:=@A.kk 11 96 [.tmp 2] A.b11 (by kernel_rfl) rfl
def Zqu(hk:ah s<s.length)(hp:cF (s.take (ah s))=true)(hd:cF (s.drop (ah s+1))=true)(p1:1<=(s.take (ah s)).length)(d1:1<=(s.drop (ah s+1)).length)(hl:s.length<=100000){h:T O}{N:Nat}:Fn A.C 38 [.str s] h N (fun v h' n'=>∃x y,v=.aY [.agg [.bool false,x],.agg [.bool false,y]]/\Dn h' n' x (aD (s.take (ah s)))/\Dn h' n' y (aD (s.drop (ah s+1)))):=by
 intro w
 rw[aQ,A.k38 (by simp)]
 have cO:=fun st=>Bv (s:=s) (st:=st) (by omega)
 have c1:¬((ah s:Int)=(s.length:Int)):=by omega
 have c2:¬(ah s=s.length):=by omega
 have c3:(ah s:Int)<=(s.length:Int):=by omega
 have c4:(ah s:Int)+1<=(s.length:Int):=by omega
 have c5:((ah s:Int)+1).toNat=ah s+1:=by omega
 simp[A.b38,cO,c1,c3,az]
 refine au (Pc hp p1 (by simp;omega)) ?_
 rintro v1 h1 n1 k1 ⟨x,rfl,hx⟩
 have nx:¬((aD (s.take (ah s)):Nat):Int)<0:=by omega
 simp(disch:=omega) [c5,az,nx]
 refine au (Pc hd d1 (by simp;omega)) ?_
 rintro v2 h2 n2 k2 ⟨y,rfl,hy⟩
 have ny:¬((aD (s.drop (ah s+1)):Nat):Int)<0:=by omega
 have eS:=k1.le
 have gF:=k2.le
 have hx:=Dn.ae hx k2
 have r0:=(k2.get N (by omega)).trans (k1.get N (by omega))
 have r1:=(k2.get (N+1) (by omega)).trans (k1.get (N+1) (by omega))
 simp at r0 r1
 have iN:∀u∈([.bool false,.aa]:List V),∀k n,u≠V.int k n:=by intro u hu k n;simp at hu;rcases hu with rfl|rfl<;>simp
 have uW:=(Sl.form hx).one
 have uX:=(Sl.form hy).one
 unfold V.one at uW uX
 have Pd:N<n1:=by omega
 have Pe:N<n2:=by omega
 have Pf:N+1<n2:=by omega
 have d4':¬N+1=N:=by omega
 simp[r0,r1,ny,ag,bS,uW,uX,Pd,Pe,Pf,aL,aM,cD.cG,aA]
 have xW:=Sl.setInt (i:=N) (c1:=[.bool false,x]) (e1:=88) (w1:=true) hx r0 iN rfl
 have qf:=Sl.setInt (i:=N) (c1:=[.bool false,x]) (e1:=88) (w1:=true) hy r0 iN rfl
 have LA:(h2.set N (.cells [.bool false,x] 88 true)).get (N+1)=some (.cells [.bool false,.aa] 88 true):=by rw[T.ai,aq (by omega)];exact r1
 have GQ:=Sl.setInt (i:=N+1) (c1:=[.bool false,y]) (e1:=88) (w1:=true) xW LA iN rfl
 have uH:=Sl.setInt (i:=N+1) (c1:=[.bool false,y]) (e1:=88) (w1:=true) qf LA iN rfl
 have k0:=((ad.refl (h:=h) (n:=N)).new (.cells [.bool false,.aa] 88 true)).new (.cells [.bool false,.aa] 88 true)
 exact⟨(((k0.trans k1).trans k2).set (aR N)).set (by omega),x,y,⟨rfl,rfl⟩,GQ,uH⟩
def Pg{s:aU}(h:g_ s=true):cF s=true/\1<=s.length:=by
 cases s with
 |nil=>cases h
 |cons c s=>
  unfold g_ at h
  rw[iS]at h
  exact⟨h.1,by simp⟩
def Ph:ds 1=[1]:=by rw[wZ (by decide),qq];rfl
def Pj(h:cF s=true)(hl:s.length<=100000):(ds (aD s)).length<1000000000000:=by
 have h1:=zO h
 have h2:(10:Nat)^s.length<=1000000000^s.length:=BK (by decide) _
 have:=G5 (n:=aD s) (k:=s.length) (by omega)
 omega
def Qz{s:aU}(hl:s.length<9223372036854775808){h:T O}{N:Nat}:Fn A.C 11 [.str s] h N (fun v _ _=>v=.int .i64 (aN s:Nat)):=by
 intro w
 rw[aQ,A.k11 (by simp)]
 cases s with
 |nil=>
  have cO:=fun st=>Bv (s:=[]) (st:=st) (by simp)
  have eK:=fun st=>Hx (s:=[]) (st:=st) (by simp)
  simp(disch:=first|(simp;done)|omega|(simp only[bn,bW,bf];omega)|rfl) [-getElem?_pos,A.b11,cO,ah,az,eK,g_,aA]
  exact⟨ad.refl,rfl⟩
 |cons c t=>
  by_cases h45:cJ c=45
  ·have dC:aN (c::t)=jh true (t.take (ah t)) (decide (ah t<t.length)) (t.drop (ah t+1)):=by
    have:c.toNat=45:=by unfold cJ at h45;omega
    simp[aN,Ep,bY,bj,this]
   rw[dC]
   have cC:(0:Int)<(t.length:Int)+1:=by omega
   have cy:∀st:St,oW st (some (.str (c::t))) (some (some (.int .i64 1))) (some none)=some (.str t,st):=fun st=>by rw[Ah (by omega) (by simp only[bf];omega)];rfl
   have cO:=fun st=>Bv (s:=t) (st:=st) (by simp at hl;omega)
   have eK:=fun st=>Hx (s:=t.take (ah t)) (st:=st) (by simp at hl ⊢;omega)
   have fz:(ah t:Int)<=(t.length:Int):=by have:=Ci t;omega
   have fk:ah t<=t.length:=Ci t
   have AQ:(t.take (ah t)).length=ah t:=by simp;omega
   have lA:(t.drop (ah t+1)).length=t.length-(ah t+1):=by simp
   have di:=h45
   have ga:=h45
   have nC:=h45
   simp at hl
   generalize hp:t.take (ah t)=p at*
   generalize ke:t.drop (ah t+1)=d at*
   by_cases hA:g_ p=true
   ·by_cases hz:p=[48]
    ·have e1:(p==[48])=true:=by simp[hz]
     simp(disch:=first|(simp;done)|omega|(simp only[bn,bW,bf];omega)|rfl) [-getElem?_pos,A.b11,cC,cy,cO,eK,fz,fk,hp,ke,az,aW,di,ga,nC,hA,e1,aA]
     exact⟨ad.refl,by simp[jh,fD,hz]⟩
    ·have e1:(p==[48])=false:=by simp[hz]
     by_cases nS:ah t<t.length
     ·have fH:(ah t:Int)<(t.length:Int):=by omega
      have oC:=fun st=>Hx (s:=d) (st:=st) (by omega)
      by_cases hD:g_ d=true
      ·by_cases h48:d=[48]
       ·have e8:(d==[48])=true:=by simp[h48]
        simp(disch:=first|(simp;done)|omega|(simp only[bn,bW,bf];omega)|rfl) [-getElem?_pos,A.b11,cC,cy,cO,eK,fz,fk,hp,ke,az,aW,di,ga,nC,hA,e1,nS,fH,oC,hD,e8,aA]
        exact⟨ad.refl,by simp[jh,fD,h48]⟩
       ·have e8:(d==[48])=false:=by simp[h48]
        by_cases wW:d=[49]
        ·have e9:(d==[49])=true:=by simp[wW]
         simp(disch:=first|(simp;done)|omega|(simp only[bn,bW,bf];omega)|rfl) [-getElem?_pos,A.b11,cC,cy,cO,eK,fz,fk,hp,ke,az,aW,di,ga,nC,hA,e1,nS,fH,oC,hD,e8,e9,aA]
         exact⟨ad.refl,by simp[jh,fD,wW]⟩
        ·have e9:(d==[49])=false:=by simp[wW]
         have dv:fD true p true d=true:=by simp[fD,hA,hD,h48,wW,hz]
         by_cases b6:600<p.length
         ·have b6':(600:Int)<(ah t:Int):=by omega
          simp(disch:=first|(simp;done)|omega|(simp only[bn,bW,bf];omega)|rfl) [-getElem?_pos,A.b11,cC,cy,cO,eK,fz,fk,hp,ke,az,aW,di,ga,nC,hA,e1,nS,fH,oC,hD,e8,e9,b6',aA]
          exact⟨ad.refl,by simp[jh,dv,b6]⟩
         ·have b6':¬(600:Int)<(ah t:Int):=by omega
          by_cases b7:600<d.length
          ·have b7':(600:Int)<(t.length:Int)-(ah t:Int)-1:=by omega
           simp(disch:=first|(simp;done)|omega|(simp only[bn,bW,bf];omega)|rfl) [-getElem?_pos,A.b11,cC,cy,cO,eK,fz,fk,hp,ke,az,aW,di,ga,nC,hA,e1,nS,fH,oC,hD,e8,e9,b6',b7',aA]
           exact⟨ad.refl,by simp[jh,dv,b6,b7]⟩
          ·have b7':¬(600:Int)<(t.length:Int)-(ah t:Int)-1:=by omega
           obtain⟨pa,pb⟩:=Pg hA
           obtain⟨da,db⟩:=Pg hD
           simp(disch:=first|(simp;done)|omega|(simp only[bn,bW,bf];omega)|rfl) [-getElem?_pos,A.b11,cC,cy,cO,eK,fz,fk,hp,ke,az,aW,di,ga,nC,hA,e1,nS,fH,oC,hD,e8,e9,b6',b7']
           refine au (Zqu nS (by rw[hp];exact pa) (by rw[ke];exact da) (by rw[hp];exact pb) (by rw[ke];exact db) (by omega)) ?_
           rintro v1 h1 n1 k1 ⟨x,y,rfl,hx,hy⟩
           rw[hp]at hx
           rw[ke]at hy
           have uW:=(Sl.form hx).one
           have uX:=(Sl.form hy).one
           unfold V.one at uW uX
           have kx:=((((ad.refl (h:=h1) (n:=n1)).new (.cells [.bool false,.aa] 88 true)).new (.cells [.bool false,.aa] 88 true)).set (i:=n1) (o:=.cells [.bool false,x] 88 true) (aR n1)).set (i:=n1+1) (o:=.cells [.bool false,y] 88 true) (by omega)
           simp(disch:=first|(simp;done)|omega|(simp only[bn,bW,bf];omega)|rfl) [-getElem?_pos,ag,bS,uW,uX]
           refine au (O9 (hx.ae kx) (hy.ae kx) (Pj pa (by omega)) (Pj da (by omega))) ?_
           rintro z h2 n2 k2 fm
           have kk:=(k1.trans kx).trans k2
           have lz:=fm.len
           rw[f_]at lz
           have kQ:¬n1<N:=by have:=k1.le;omega
           have kJ:¬n1+1<N:=by have:=k1.le;omega
           generalize hG:Nat.gcd (aD p) (aD d)=G at*
           by_cases g1:G=1
           ·subst g1
            rw[Ph]at lz
            obtain⟨b1,b2,b3,b4,b5,z1,z2,z3,z4⟩:=Sl.at (show Sl h2 n2 z (dI [1]) from Ph▸fm) (j:=0) (x:=.int .i64 1) rfl
            simp at z4
            simp(disch:=first|(simp;done)|omega|(simp only[bn,bW,bf];omega)|rfl) [-getElem?_pos,lz,z1,z3,z4,aW,aA,kQ,kJ]
            exact⟨kk,by simp[jh,dv,b6,b7,hG]⟩
           ·have qK:jh true p true d=1:=by simp[jh,dv,b6,b7,hG,g1]
            by_cases g2:(ds G).length=1
            ·obtain⟨gx,LB⟩:=eA (l:=ds G) (k:=0) (by omega)
             obtain⟨b1,b2,b3,b4,b5,z1,z2,z3,z4⟩:=Sl.at (show Sl h2 n2 z (dI (ds G)) from fm) (fU LB)
             simp at z4
             have V2:¬gx=1:=fun hc=>g1 (by
              have hv:=fQ G
              rw[HJ LB,w_ (by omega)]at hv
              simp[vI,pI]at hv
              omega)
             simp(disch:=first|(simp;done)|omega|(simp only[bn,bW,bf];omega)|rfl) [-getElem?_pos,lz,g2,z1,z3,z4,V2,aW,aA,kQ,kJ,qK]
             exact kk
            ·have OY:¬((ds G).length:Int)=1:=by omega
             simp(disch:=first|(simp;done)|omega|(simp only[bn,bW,bf];omega)|rfl) [-getElem?_pos,lz,g2,OY,aW,aA,kQ,kJ,qK]
             exact kk
      ·have hD:g_ d=false:=by simpa using hD
       simp(disch:=first|(simp;done)|omega|(simp only[bn,bW,bf];omega)|rfl) [-getElem?_pos,A.b11,cC,cy,cO,eK,fz,fk,hp,ke,az,aW,di,ga,nC,hA,e1,nS,fH,oC,hD,aA]
       exact⟨ad.refl,by simp[jh,fD,hD]⟩
     ·have V3:ah t=t.length:=by omega
      have fH:¬(ah t:Int)<(t.length:Int):=by omega
      have dv:fD true p false d=true:=by simp[fD,hA,hz]
      have V4:¬600<d.length:=by omega
      have b7':¬(600:Int)<(t.length:Int)-(ah t:Int)-1:=by omega
      by_cases b6:600<p.length
      ·have b6':(600:Int)<(ah t:Int):=by omega
       simp(disch:=first|(simp;done)|omega|(simp only[bn,bW,bf];omega)|rfl) [-getElem?_pos,A.b11,cC,cy,cO,eK,fz,fk,hp,ke,az,aW,di,ga,nC,hA,e1,nS,fH,b6',aA]
       exact⟨ad.refl,by simp[jh,dv,b6]⟩
      ·have b6':¬(600:Int)<(ah t:Int):=by omega
       simp(disch:=first|(simp;done)|omega|(simp only[bn,bW,bf];omega)|rfl) [-getElem?_pos,A.b11,cC,cy,cO,eK,fz,fk,hp,ke,az,aW,di,ga,nC,hA,e1,nS,fH,b6',b7',aA]
       exact⟨ad.refl,by simp[jh,dv,b6,V4]⟩
   ·have hA:g_ p=false:=by simpa using hA
    simp(disch:=first|(simp;done)|omega|(simp only[bn,bW,bf];omega)|rfl) [-getElem?_pos,A.b11,cC,cy,cO,eK,fz,fk,hp,ke,az,aW,di,ga,nC,hA,aA]
    exact⟨ad.refl,by simp[jh,fD,hA]⟩
  ·have LC:bY (c::t)=false:=by
    simp only[bY,decide_eq_false_iff_not];unfold cJ at h45;omega
   obtain⟨t,ht⟩:∃t',t'=c::t:=⟨c::t,rfl⟩
   rw[<-ht]at hl LC ⊢
   have ga:t[0]?=some c:=by rw[ht];rfl
   have di:t.head?=some c:=by rw[ht];rfl
   have hlen:0<t.length:=by rw[ht];simp
   have nC:t≠[]:=by rw[ht];simp
   have eQ:(0:Int)<(t.length:Int):=by omega
   have cC:0<t.length:=hlen
   have cy:True:=trivial
   clear ht
   have dC:aN t=jh false (t.take (ah t)) (decide (ah t<t.length)) (t.drop (ah t+1)):=by
    simp[aN,Ep,bj,LC]
   rw[dC]
   have cO:=fun st=>Bv (s:=t) (st:=st) (by omega)
   have eK:=fun st=>Hx (s:=t.take (ah t)) (st:=st) (by simp;omega)
   have fz:(ah t:Int)<=(t.length:Int):=by have:=Ci t;omega
   have fk:ah t<=t.length:=Ci t
   have AQ:(t.take (ah t)).length=ah t:=by simp;omega
   have lA:(t.drop (ah t+1)).length=t.length-(ah t+1):=by simp
   generalize hp:t.take (ah t)=p at*
   generalize ke:t.drop (ah t+1)=d at*
   by_cases hA:g_ p=true
   ·have e1:True:=trivial
    by_cases nS:ah t<t.length
    ·have fH:(ah t:Int)<(t.length:Int):=by omega
     have oC:=fun st=>Hx (s:=d) (st:=st) (by omega)
     by_cases hD:g_ d=true
     ·by_cases h48:d=[48]
      ·have e8:(d==[48])=true:=by simp[h48]
       simp(disch:=first|(simp;done)|omega|(simp only[bn,bW,bf];omega)|rfl) [-getElem?_pos,A.b11,cC,cy,cO,eK,fz,fk,hp,ke,az,aW,di,ga,nC,h45,eQ,hA,e1,nS,fH,oC,hD,e8,aA]
       exact⟨ad.refl,by simp[jh,fD,h48]⟩
      ·have e8:(d==[48])=false:=by simp[h48]
       by_cases wW:d=[49]
       ·have e9:(d==[49])=true:=by simp[wW]
        simp(disch:=first|(simp;done)|omega|(simp only[bn,bW,bf];omega)|rfl) [-getElem?_pos,A.b11,cC,cy,cO,eK,fz,fk,hp,ke,az,aW,di,ga,nC,h45,eQ,hA,e1,nS,fH,oC,hD,e8,e9,aA]
        exact⟨ad.refl,by simp[jh,fD,wW]⟩
       ·have e9:(d==[49])=false:=by simp[wW]
        have dv:fD false p true d=true:=by simp[fD,hA,hD,h48,wW]
        by_cases b6:600<p.length
        ·have b6':(600:Int)<(ah t:Int):=by omega
         simp(disch:=first|(simp;done)|omega|(simp only[bn,bW,bf];omega)|rfl) [-getElem?_pos,A.b11,cC,cy,cO,eK,fz,fk,hp,ke,az,aW,di,ga,nC,h45,eQ,hA,e1,nS,fH,oC,hD,e8,e9,b6',aA]
         exact⟨ad.refl,by simp[jh,dv,b6]⟩
        ·have b6':¬(600:Int)<(ah t:Int):=by omega
         by_cases b7:600<d.length
         ·have b7':(600:Int)<(t.length:Int)-(ah t:Int)-1:=by omega
          simp(disch:=first|(simp;done)|omega|(simp only[bn,bW,bf];omega)|rfl) [-getElem?_pos,A.b11,cC,cy,cO,eK,fz,fk,hp,ke,az,aW,di,ga,nC,h45,eQ,hA,e1,nS,fH,oC,hD,e8,e9,b6',b7',aA]
          exact⟨ad.refl,by simp[jh,dv,b6,b7]⟩
         ·have b7':¬(600:Int)<(t.length:Int)-(ah t:Int)-1:=by omega
          obtain⟨pa,pb⟩:=Pg hA
          obtain⟨da,db⟩:=Pg hD
          simp(disch:=first|(simp;done)|omega|(simp only[bn,bW,bf];omega)|rfl) [-getElem?_pos,A.b11,cC,cy,cO,eK,fz,fk,hp,ke,az,aW,di,ga,nC,h45,eQ,hA,e1,nS,fH,oC,hD,e8,e9,b6',b7']
          refine au (Zqu nS (by rw[hp];exact pa) (by rw[ke];exact da) (by rw[hp];exact pb) (by rw[ke];exact db) (by omega)) ?_
          rintro v1 h1 n1 k1 ⟨x,y,rfl,hx,hy⟩
          rw[hp]at hx
          rw[ke]at hy
          have uW:=(Sl.form hx).one
          have uX:=(Sl.form hy).one
          unfold V.one at uW uX
          have kx:=((((ad.refl (h:=h1) (n:=n1)).new (.cells [.bool false,.aa] 88 true)).new (.cells [.bool false,.aa] 88 true)).set (i:=n1) (o:=.cells [.bool false,x] 88 true) (aR n1)).set (i:=n1+1) (o:=.cells [.bool false,y] 88 true) (by omega)
          simp(disch:=first|(simp;done)|omega|(simp only[bn,bW,bf];omega)|rfl) [-getElem?_pos,ag,bS,uW,uX]
          refine au (O9 (hx.ae kx) (hy.ae kx) (Pj pa (by omega)) (Pj da (by omega))) ?_
          rintro z h2 n2 k2 fm
          have kk:=(k1.trans kx).trans k2
          have lz:=fm.len
          rw[f_]at lz
          have kQ:¬n1<N:=by have:=k1.le;omega
          have kJ:¬n1+1<N:=by have:=k1.le;omega
          generalize hG:Nat.gcd (aD p) (aD d)=G at*
          by_cases g1:G=1
          ·subst g1
           rw[Ph]at lz
           obtain⟨b1,b2,b3,b4,b5,z1,z2,z3,z4⟩:=Sl.at (show Sl h2 n2 z (dI [1]) from Ph▸fm) (j:=0) (x:=.int .i64 1) rfl
           simp at z4
           simp(disch:=first|(simp;done)|omega|(simp only[bn,bW,bf];omega)|rfl) [-getElem?_pos,lz,z1,z3,z4,aW,aA,kQ,kJ]
           exact⟨kk,by simp[jh,dv,b6,b7,hG]⟩
          ·have qK:jh false p true d=1:=by simp[jh,dv,b6,b7,hG,g1]
           by_cases g2:(ds G).length=1
           ·obtain⟨gx,LB⟩:=eA (l:=ds G) (k:=0) (by omega)
            obtain⟨b1,b2,b3,b4,b5,z1,z2,z3,z4⟩:=Sl.at (show Sl h2 n2 z (dI (ds G)) from fm) (fU LB)
            simp at z4
            have V2:¬gx=1:=fun hc=>g1 (by
             have hv:=fQ G
             rw[HJ LB,w_ (by omega)]at hv
             simp[vI,pI]at hv
             omega)
            simp(disch:=first|(simp;done)|omega|(simp only[bn,bW,bf];omega)|rfl) [-getElem?_pos,lz,g2,z1,z3,z4,V2,aW,aA,kQ,kJ,qK]
            exact kk
           ·have OY:¬((ds G).length:Int)=1:=by omega
            simp(disch:=first|(simp;done)|omega|(simp only[bn,bW,bf];omega)|rfl) [-getElem?_pos,lz,g2,OY,aW,aA,kQ,kJ,qK]
            exact kk
     ·have hD:g_ d=false:=by simpa using hD
      simp(disch:=first|(simp;done)|omega|(simp only[bn,bW,bf];omega)|rfl) [-getElem?_pos,A.b11,cC,cy,cO,eK,fz,fk,hp,ke,az,aW,di,ga,nC,h45,eQ,hA,e1,nS,fH,oC,hD,aA]
      exact⟨ad.refl,by simp[jh,fD,hD]⟩
    ·have V3:ah t=t.length:=by omega
     have fH:¬(ah t:Int)<(t.length:Int):=by omega
     have dv:fD false p false d=true:=by simp[fD,hA]
     have V4:¬600<d.length:=by omega
     have b7':¬(600:Int)<(t.length:Int)-(ah t:Int)-1:=by omega
     by_cases b6:600<p.length
     ·have b6':(600:Int)<(ah t:Int):=by omega
      simp(disch:=first|(simp;done)|omega|(simp only[bn,bW,bf];omega)|rfl) [-getElem?_pos,A.b11,cC,cy,cO,eK,fz,fk,hp,ke,az,aW,di,ga,nC,h45,eQ,hA,e1,nS,fH,b6',aA]
      exact⟨ad.refl,by simp[jh,dv,b6]⟩
     ·have b6':¬(600:Int)<(ah t:Int):=by omega
      simp(disch:=first|(simp;done)|omega|(simp only[bn,bW,bf];omega)|rfl) [-getElem?_pos,A.b11,cC,cy,cO,eK,fz,fk,hp,ke,az,aW,di,ga,nC,h45,eQ,hA,e1,nS,fH,b6',b7',aA]
      exact⟨ad.refl,by simp[jh,dv,b6,V4]⟩
   ·have hA:g_ p=false:=by simpa using hA
    simp(disch:=first|(simp;done)|omega|(simp only[bn,bW,bf];omega)|rfl) [-getElem?_pos,A.b11,cC,cy,cO,eK,fz,fk,hp,ke,az,aW,di,ga,nC,h45,eQ,hA,aA]
    exact⟨ad.refl,by simp[jh,fD,hA]⟩
def Xb(hl:s.length<=100000){h:T O}{N:Nat}:Fn A.C 11 [.str s] h N (fun v _ _=>v=.int .i64 (aN s:Nat)):=Qz (by omega)
variable {N:Nat} {a b:Int} {h:T O} {x y:V}
def A.b43:=A.q Tryz.f43
def A.k43:=@A.kk 43 57 [.tmp 4] A.b43 (by kernel_rfl) rfl
def LD(hb:0<b):b.natAbs/Nat.gcd a.natAbs b.natAbs=(Rat.divInt a b).den:=by
 have h:((Rat.divInt a b).den:Int)=((b.natAbs/Nat.gcd a.natAbs b.natAbs:Nat):Int):=by
  rw[Rat.den_divInt,aq (by omega),Int.gcd_comm]
  rfl
 exact(Int.ofNat_inj.1 h).symm
def FF(hb:0<b):(if decide (a<0)=true then -((a.natAbs/Nat.gcd a.natAbs b.natAbs:Nat):Int) else ((a.natAbs/Nat.gcd a.natAbs b.natAbs:Nat):Int))=(Rat.divInt a b).num:=by
 rw[Rat.num_divInt,Int.sign_eq_one_of_pos hb,Int.one_mul,Int.gcd_comm]
 have hd:((Int.gcd a b:Nat):Int)∣a:=Int.gcd_dvd_left ..
 have he:Nat.gcd a.natAbs b.natAbs=Int.gcd a b:=rfl
 rw[he,Int.natCast_ediv]
 by_cases ha:a<0
 ·have h1:(a.natAbs:Int)= -a:=by omega
  simp only[ha,decide_true,if_true,h1]
  rw[Int.neg_ediv_of_dvd hd,Int.neg_neg]
 ·have h1:(a.natAbs:Int)=a:=by omega
  simp[ha,h1]
def Ydj{z:Int}:(aK z).length<=9*(ds z.natAbs).length+2:=by
 have:=LF (n:=z.natAbs)
 unfold aK
 split<;>simp<;>omega
def Yib{m e:Nat}(h0:0<m)(he:m%1000000000=e):m=1↔(ds m).length=1/\e=1:=by
 constructor
 ·rintro rfl
  exact⟨by have:=Yia (r:=1) (by omega);rw[<-this];decide,by omega⟩
 ·rintro⟨h1,h2⟩
  have h3:=rK (fJ m)
  rw[fQ,h1,Pk,Nat.pow_one]at h3
  omega
def Zry(hx:Rg h N x a)(hy:Rg h N y b)(hb:0<b)(l3:(ds a.natAbs).length<100000000000)(l4:(ds b.natAbs).length<100000000000):Fn A.C 43 [x,y] h N (fun u _ _=>u=.str (av (Rat.divInt a b))):=by
 intro w
 obtain⟨u,rfl,lf⟩:=hx
 obtain⟨v,rfl,mj⟩:=hy
 have o1:=Sl.form lf |>.one
 have o2:=Sl.form lf |>.cells
 have o3:=Sl.form mj |>.one
 have o4:=Sl.form mj |>.cells
 unfold V.one at o1 o3
 unfold V.cells at o2 o4
 have l1:(ds a.natAbs).length<1000000000000:=by omega
 have l2:(ds b.natAbs).length<1000000000000:=by omega
 have uw:¬b<0:=by omega
 rw[show decide (b<0)=false by simp[uw]]
 have kB:=(((ad.refl (h:=h) (n:=N)).new (.cells [.bool (decide (a<0)),u] 88 true)).new (.cells [.bool false,v] 88 true))
 have hu:=Sl.ae lf kB
 have hv:=Sl.ae mj kB
 rw[aQ,A.k43 (by simp)]
 simp[A.b43,o1,o3,aL]
 generalize hB:(h.set N (.cells [.bool (decide (a<0)),u] 88 true)).set (N+1) (.cells [.bool false,v] 88 true)=HB at*
 have gN:HB.get N=some (.cells [.bool (decide (a<0)),u] 88 true):=by rw[<-hB];simp
 have gM:HB.get (N+1)=some (.cells [.bool false,v] 88 true):=by rw[<-hB];simp
 refine au (O9 hu hv l1 l2) ?_
 rintro v1 h1 n1 k1 q1
 have CJ:=(k1.get N (by omega)).trans gN
 have FG:=(k1.get (N+1) (by omega)).trans gM
 have AD:0<Nat.gcd a.natAbs b.natAbs:=M9 _ (by omega)
 have lg:(ds (Nat.gcd a.natAbs b.natAbs)).length<1000000000000:=mr (qX (Nat.gcd_le_right _ (by omega))) l2
 have tU:=k1.le
 simp[CJ,aL]
 refine au (Lw (hu.ae k1) q1 AD l1 lg) ?_
 rintro _ h2 n2 k2 ⟨q,r1,rfl,q2, -⟩
 have FH:=(k2.get (N+1) (by omega)).trans FG
 have nk:=k2.le
 simp[FH,aL]
 refine au (Lw ((hv.ae k1).ae k2) (q1.ae k2) AD l2 lg) ?_
 rintro _ h3 n3 k3 ⟨d,r2,rfl,q3, -⟩
 have CW:=(k3.get N (by omega)).trans ((k2.get N (by omega)).trans CJ)
 have vY:=k3.le
 rw[LD hb]at q3
 have lq:(ds (a.natAbs/Nat.gcd a.natAbs b.natAbs)).length<100000000000:=mr (qX (sM _ _)) l3
 have yE:(ds (Rat.divInt a b).den).length<100000000000:=by rw[<-LD hb];exact mr (qX (sM _ _)) l4
 simp[CW,aL]
 refine au (tO (n:=a.natAbs/Nat.gcd a.natAbs b.natAbs) (q2.ae k3) (fJ _) (fQ _) (by omega)) ?_
 rintro v4 h4 n4 k4 q4
 have QQ:=k4.le
 rw[FF hb]at q4
 simp[]
 refine au (Hu q4 (by rw[<-FF hb];split<;>(first|rw[zr,ed]|rw[ed])<;>exact lq)) ?_
 rintro _ h5 n5 k5 rfl
 have le5:=k5.le
 obtain⟨m,hm⟩:∃m,(Rat.divInt a b).den=m:=⟨_,rfl⟩
 have sS:0<m:=by rw[<-hm];exact Rat.den_pos _
 rw[hm]at q3 yE
 have cO:=Ydj (z:=(Rat.divInt a b).num)
 have FI:(ds (Rat.divInt a b).num.natAbs).length<100000000000:=by rw[<-FF hb];split<;>(first|rw[zr,ed]|rw[ed])<;>exact lq
 have kb:av (Rat.divInt a b)=if m=1 then aK (Rat.divInt a b).num else aK (Rat.divInt a b).num++47::aj m:=by unfold av;rw[hm]
 rw[kb]
 generalize aK (Rat.divInt a b).num=s at*
 have Bn:Dn h5 n5 d m:=(q3.ae k4).ae k5
 have ld:=Sl.len Bn
 rw[f_]at ld
 have qO:(ds m).length≠0:=fun hc=>(by omega:m≠0) (zV.1 (pV hc))
 have hg:=NS (i:=0) (n:=m) (by omega)
 rw[Ag,Nat.div_one]at hg
 obtain⟨e,he⟩:∃e,m%1000000000=e:=⟨_,rfl⟩
 rw[he]at hg
 have qo:m=1↔(ds m).length=1/\e=1:=Yib sS he
 obtain⟨i,o,c,te,rw_,p1,p2,p3,p4⟩:=Sl.at Bn (fU hg)
 rw[ri]at p4
 obtain⟨L,hL⟩:∃L,(ds m).length=L:=⟨_,rfl⟩
 rw[hL]at ld qo
 have lA:=LF (n:=m)
 rw[hL]at lA yE
 have dJ:IntKind.max .i64=9223372036854775807:=rfl
 have b1:¬(9223372036854775807:Int)<(s.length:Int)+1:=by omega
 have b2:¬(9223372036854775807:Int)<(s.length:Int)+1+((aj m).length:Int):=by omega
 have FJ:aK (m:Int)=aj m:=by unfold aK;rw[aq (by omega),ed]
 have tI:(ds m).length<1152921504606846976:=by omega
 have K5:ad h N h5 n5:=((((kB.trans k1).trans k2).trans k3).trans k4).trans k5
 by_cases k_:m=1
 ·obtain⟨rfl,rfl⟩:=qo.1 k_
  rw[aJ k_]
  clear cO FI lA b1 b2 tI yE
  simp[ld,p1,p3,p4,aA]
  exact K5
 ·rw[aq k_]
  by_cases Ht:L=1
  ·have Ux:¬e=1:=fun hc=>k_ (qo.2 ⟨Ht,hc⟩)
   have vH:¬(e:Int)=1:=by omega
   subst Ht
   clear cO FI lA
   simp[ld,p1,p3,p4,vH,iC,dJ,b1]
   refine au (tO (b:=false) (n:=m) Bn (fJ _) (fQ _) tI) ?_
   rintro v6 h6 n6 k6 q6
   have q7:Rg h6 n6 v6 (m:Int):=by simpa using q6
   simp[]
   refine au (Hu q7 (by rw[ed,hL];exact yE)) ?_
   rintro _ h7 n7 k7 rfl
   rw[FJ]
   simp[iC,dJ,b2,aA]
   exact(K5.trans k6).trans k7
  ·have V5:¬(L:Int)=1:=by omega
   clear cO FI lA
   simp[ld,V5,iC,dJ,b1]
   refine au (tO (b:=false) (n:=m) Bn (fJ _) (fQ _) tI) ?_
   rintro v6 h6 n6 k6 q6
   have q7:Rg h6 n6 v6 (m:Int):=by simpa using q6
   simp[]
   refine au (Hu q7 (by rw[ed,hL];exact yE)) ?_
   rintro _ h7 n7 k7 rfl
   rw[FJ]
   simp[iC,dJ,b2,aA]
   exact(K5.trans k6).trans k7
def Zrz{P Q:Int}(hx:Rg h N x P)(hy:Rg h N y Q)(wh:Q<0)(l3:(ds P.natAbs).length<100000000000)(l4:(ds Q.natAbs).length<100000000000):Fn A.C 43 [x,y] h N (fun u _ _=>u=.str (av (Rat.divInt P Q))):=by
 intro w
 obtain⟨u0,rfl,lf⟩:=hx
 obtain⟨v0,rfl,mj⟩:=hy
 have o1:=Sl.form lf |>.one
 have o2:=Sl.form lf |>.cells
 have o3:=Sl.form mj |>.one
 have o4:=Sl.form mj |>.cells
 unfold V.one at o1 o3
 unfold V.cells at o2 o4
 have oR:Rg h N (.agg [.bool (decide (P<0)),u0]) P:=⟨u0,rfl,lf⟩
 have tR:Rg h N (.agg [.bool true,v0]) Q:=⟨v0,by simp[wh],mj⟩
 rw[show decide (Q<0)=true by simp[wh]]
 have kA:=(((ad.refl (h:=h) (n:=N)).new (.cells [.bool (decide (P<0)),u0] 88 true)).new (.cells [.bool true,v0] 88 true))
 rw[aQ,A.k43 (by simp)]
 simp[A.b43,o1,o3,aL,aM]
 generalize hA:(h.set N (.cells [.bool (decide (P<0)),u0] 88 true)).set (N+1) (.cells [.bool true,v0] 88 true)=HA at*
 have gN0:HA.get N=some (.cells [.bool (decide (P<0)),u0] 88 true):=by rw[<-hA];simp
 have gM0:HA.get (N+1)=some (.cells [.bool true,v0] 88 true):=by rw[<-hA];simp
 refine au (Zvz (oR.ae kA) (by omega)) ?_
 rintro _ m1 t1 j1 q1
 obtain⟨a,ha⟩:∃a,a= -P:=⟨_,rfl⟩
 rw[<-ha]at q1
 obtain⟨u,rfl,yc⟩:=q1
 have i1:=j1.le
 have CJ:=(j1.get N (by omega)).trans gN0
 have FG:=(j1.get (N+1) (by omega)).trans gM0
 simp[FG,aL,aM]
 refine au (Zvz ((tR.ae kA).ae j1) (by omega)) ?_
 rintro _ m2 t2 j2 q2
 obtain⟨b,py⟩:∃b,b= -Q:=⟨_,rfl⟩
 rw[<-py]at q2
 have hb:0<b:=by omega
 obtain⟨v,rfl,iY⟩:=q2
 rw[show decide (b<0)=false by simp;omega]
 have kh:Rat.divInt P Q=Rat.divInt a b:=by rw[ha,py];exact(Rat.neg_divInt_neg P Q).symm
 rw[kh]
 have n1:=Yne (b:=decide (P<0)) (Sl.form lf)
 have n2:=Yne (b:=true) (Sl.form mj)
 have i2:=j2.le
 have Pl:=(j2.get N (by omega)).trans CJ
 have FH:=(j2.get (N+1) (by omega)).trans FG
 have s1:=Sl.form yc |>.one
 have s2:=Sl.form yc |>.cells
 have s3:=Sl.form iY |>.one
 have s4:=Sl.form iY |>.cells
 unfold V.one at s1 s3
 unfold V.cells at s2 s4
 have g1:N+1<t1:=by omega
 have g2:N+1<t2:=by omega
 have g3:N<t2:=by omega
 simp[Pl,FH,s1,s3,ag,bS,aL,cD.cG,g1,g2,g3]
 have V6:(m2.set N (.cells [.bool (decide (a<0)),u] 88 true)).get (N+1)=some (.cells [.bool true,v0] 88 true):=by rw[T.ai,aq (by omega)];exact FH
 have kB:=((((kA.trans j1).trans j2).set (i:=N) (o:=.cells [.bool (decide (a<0)),u] 88 true) (by omega))).set (i:=N+1) (o:=.cells [.bool false,v] 88 true) (by omega)
 have hu:=Sl.setInt (Sl.setInt (yc.ae j2) Pl n1 (c1:=[.bool (decide (a<0)),u]) (e1:=88) (w1:=true) rfl) V6 n2 (c1:=[.bool false,v]) (e1:=88) (w1:=true) rfl
 have hv:=Sl.setInt (Sl.setInt iY Pl n1 (c1:=[.bool (decide (a<0)),u]) (e1:=88) (w1:=true) rfl) V6 n2 (c1:=[.bool false,v]) (e1:=88) (w1:=true) rfl
 generalize hB:(m2.set N (.cells [.bool (decide (a<0)),u] 88 true)).set (N+1) (.cells [.bool false,v] 88 true)=HB at*
 have gN:HB.get N=some (.cells [.bool (decide (a<0)),u] 88 true):=by rw[<-hB];simp
 have gM:HB.get (N+1)=some (.cells [.bool false,v] 88 true):=by rw[<-hB];simp
 have ea:a.natAbs=P.natAbs:=by omega
 have eb:b.natAbs=Q.natAbs:=by omega
 rw[<-ea]at l3
 rw[<-eb]at l4
 have l1:(ds a.natAbs).length<1000000000000:=by omega
 have l2:(ds b.natAbs).length<1000000000000:=by omega
 clear o1 o2 o3 o4
 have o1:=s1
 have o2:=s2
 have o3:=s3
 have o4:=s4
 clear s1 s2 s3 s4 V6 Pl FH CJ FG gN0 gM0 n1 n2 hA kh
 refine au (O9 hu hv l1 l2) ?_
 rintro v1 h1 n1 k1 q1
 have CJ:=(k1.get N (by omega)).trans gN
 have FG:=(k1.get (N+1) (by omega)).trans gM
 have AD:0<Nat.gcd a.natAbs b.natAbs:=M9 _ (by omega)
 have lg:(ds (Nat.gcd a.natAbs b.natAbs)).length<1000000000000:=mr (qX (Nat.gcd_le_right _ (by omega))) l2
 have tU:=k1.le
 simp[CJ,aL]
 refine au (Lw (hu.ae k1) q1 AD l1 lg) ?_
 rintro _ h2 n2 k2 ⟨q,r1,rfl,q2, -⟩
 have FH:=(k2.get (N+1) (by omega)).trans FG
 have nk:=k2.le
 simp[FH,aL]
 refine au (Lw ((hv.ae k1).ae k2) (q1.ae k2) AD l2 lg) ?_
 rintro _ h3 n3 k3 ⟨d,r2,rfl,q3, -⟩
 have CW:=(k3.get N (by omega)).trans ((k2.get N (by omega)).trans CJ)
 have vY:=k3.le
 rw[LD hb]at q3
 have lq:(ds (a.natAbs/Nat.gcd a.natAbs b.natAbs)).length<100000000000:=mr (qX (sM _ _)) l3
 have yE:(ds (Rat.divInt a b).den).length<100000000000:=by rw[<-LD hb];exact mr (qX (sM _ _)) l4
 simp[CW,aL]
 refine au (tO (n:=a.natAbs/Nat.gcd a.natAbs b.natAbs) (q2.ae k3) (fJ _) (fQ _) (by omega)) ?_
 rintro v4 h4 n4 k4 q4
 have QQ:=k4.le
 rw[FF hb]at q4
 simp[]
 refine au (Hu q4 (by rw[<-FF hb];split<;>(first|rw[zr,ed]|rw[ed])<;>exact lq)) ?_
 rintro _ h5 n5 k5 rfl
 have le5:=k5.le
 obtain⟨m,hm⟩:∃m,(Rat.divInt a b).den=m:=⟨_,rfl⟩
 have sS:0<m:=by rw[<-hm];exact Rat.den_pos _
 rw[hm]at q3 yE
 have cO:=Ydj (z:=(Rat.divInt a b).num)
 have FI:(ds (Rat.divInt a b).num.natAbs).length<100000000000:=by rw[<-FF hb];split<;>(first|rw[zr,ed]|rw[ed])<;>exact lq
 have kb:av (Rat.divInt a b)=if m=1 then aK (Rat.divInt a b).num else aK (Rat.divInt a b).num++47::aj m:=by unfold av;rw[hm]
 rw[kb]
 generalize aK (Rat.divInt a b).num=s at*
 have Bn:Dn h5 n5 d m:=(q3.ae k4).ae k5
 have ld:=Sl.len Bn
 rw[f_]at ld
 have qO:(ds m).length≠0:=fun hc=>(by omega:m≠0) (zV.1 (pV hc))
 have hg:=NS (i:=0) (n:=m) (by omega)
 rw[Ag,Nat.div_one]at hg
 obtain⟨e,he⟩:∃e,m%1000000000=e:=⟨_,rfl⟩
 rw[he]at hg
 have qo:m=1↔(ds m).length=1/\e=1:=Yib sS he
 obtain⟨i,o,c,te,rw_,p1,p2,p3,p4⟩:=Sl.at Bn (fU hg)
 rw[ri]at p4
 obtain⟨L,hL⟩:∃L,(ds m).length=L:=⟨_,rfl⟩
 rw[hL]at ld qo
 have lA:=LF (n:=m)
 rw[hL]at lA yE
 have dJ:IntKind.max .i64=9223372036854775807:=rfl
 have b1:¬(9223372036854775807:Int)<(s.length:Int)+1:=by omega
 have b2:¬(9223372036854775807:Int)<(s.length:Int)+1+((aj m).length:Int):=by omega
 have FJ:aK (m:Int)=aj m:=by unfold aK;rw[aq (by omega),ed]
 have tI:(ds m).length<1152921504606846976:=by omega
 have K5:ad h N h5 n5:=((((kB.trans k1).trans k2).trans k3).trans k4).trans k5
 by_cases k_:m=1
 ·obtain⟨rfl,rfl⟩:=qo.1 k_
  rw[aJ k_]
  clear cO FI lA b1 b2 tI yE
  simp[ld,p1,p3,p4,aA]
  exact K5
 ·rw[aq k_]
  by_cases Ht:L=1
  ·have Ux:¬e=1:=fun hc=>k_ (qo.2 ⟨Ht,hc⟩)
   have vH:¬(e:Int)=1:=by omega
   subst Ht
   clear cO FI lA
   simp[ld,p1,p3,p4,vH,iC,dJ,b1]
   refine au (tO (b:=false) (n:=m) Bn (fJ _) (fQ _) tI) ?_
   rintro v6 h6 n6 k6 q6
   have q7:Rg h6 n6 v6 (m:Int):=by simpa using q6
   simp[]
   refine au (Hu q7 (by rw[ed,hL];exact yE)) ?_
   rintro _ h7 n7 k7 rfl
   rw[FJ]
   simp[iC,dJ,b2,aA]
   exact(K5.trans k6).trans k7
  ·have V5:¬(L:Int)=1:=by omega
   clear cO FI lA
   simp[ld,V5,iC,dJ,b1]
   refine au (tO (b:=false) (n:=m) Bn (fJ _) (fQ _) tI) ?_
   rintro v6 h6 n6 k6 q6
   have q7:Rg h6 n6 v6 (m:Int):=by simpa using q6
   simp[]
   refine au (Hu q7 (by rw[ed,hL];exact yE)) ?_
   rintro _ h7 n7 k7 rfl
   rw[FJ]
   simp[iC,dJ,b2,aA]
   exact(K5.trans k6).trans k7
def Zng(hx:Rg h N x a)(hy:Rg h N y b)(hb:b≠0)(l3:(ds a.natAbs).length<100000000000)(l4:(ds b.natAbs).length<100000000000):Fn A.C 43 [x,y] h N (fun u _ _=>u=.str (av (Rat.divInt a b))):=by
 rcases Int.lt_or_gt_of_ne hb with hb|hb
 ·exact Zrz hx hy hb l3 l4
 ·exact Zry hx hy hb l3 l4
def A.w88:=A.q Tryz.f88
def A.tJ:=A.ql A.w88 0 []
def A.b88:=(fun x0=>A.qb A.w88 [x0]) A.tJ
def A.k88:=@A.kk 88 12 [.tmp 4] A.b88 (by kernel_rfl) rfl
def Ycu{a b:Nat}{st:St}(ha:a<9223372036854775808)(hb:b<9223372036854775808):A.C.call (.func 88 [] []) [.int .i64 a,.int .i64 b] st=some (.int .i64 (Nat.gcd a b:Nat),st):=by
 apply Call.eq
 rw[aQ,A.k88 (by simp)]
 simp[A.b88]
 refine cX [(0,1),(5,10)] (fun e r s1=>s1=⟨st.h,st.n,[]⟩/\e=.exit 0/\r.get 0=some (.int .i64 (Nat.gcd a b:Nat))) (fun q r s1=>s1=⟨st.h,st.n,[]⟩/\q<9223372036854775808/\r.get 1=some (.int .i64 q)/\∃k:Nat,k<9223372036854775808/\r.get 0=some (.int .i64 k)/\Nat.gcd k q=Nat.gcd a b) b ?_ ?_ ?_
 ·exact⟨rfl,hb,by simp,a,ha,by simp,rfl⟩
 ·rintro q r _ hr hf ⟨rfl,hq,h1,k,hk,h0,hg⟩
  rw[cm]
  by_cases hz:q=0
  ·subst hz
   rw[Nat.gcd_zero_right]at hg
   simp[A.tJ,hf,h0,h1,hg]
  ·have i1:(0:Int)<(q:Int):=by omega
   have i2:0<q:=by omega
   have i3:¬(q:Int)=0:=by omega
   have t1:(k:Int).tmod q=((k%q:Nat):Int):=by rw[z_ (by omega)];omega
   have t2:bb .i64 ((k%q:Nat):Int)=((k%q:Nat):Int):=cb (by omega) (by have:=jO k i2;omega)
   have aO:=jO k i2
   simp[A.tJ,hf,h0,h1,i2,hz,t1,cD.cG]
   exact⟨k%q,aO,by omega,by simp,q,hq,rfl,by rw[<-hg,Nat.gcd_comm k q,Nat.gcd_rec q k,Nat.gcd_comm]⟩
 ·rintro _ r _ hr ⟨rfl,rfl,h0⟩
  simp[h0]
end
end Go.Mx
