/-lensletref01-/
import Derived.Test.YtgnadghjglamaaaGreatDoorRbE
set_option linter.all false
namespace Go.Mx
noncomputable section
open Go Go.Proofs
variable {s:aU}
set_option maxRecDepth 1000000
def A.b64:=A.q Tryz.f64
def A.k64:=@A.kk 64 25 [.cell 2 (some 2),.cell 3 (some 2)] A.b64 (by kernel_rfl) rfl
def A.b49:=A.q Tryz.f49
def A.k49:=@A.kk 49 96 [.tmp 2] A.b49 (by kernel_rfl) rfl
def Zqq(hk:ai s<s.length)(hp:cN (s.take (ai s))=true)(hd:cN (s.drop (ai s+1))=true)(p1:1<=(s.take (ai s)).length)(d1:1<=(s.drop (ai s+1)).length)(hl:s.length<=100000){h:T O}{N:Nat}:Fn A.C 64 [.str s] h N (fun v h' n'=>∃x y,v=.aS [.agg [.bool false,x],.agg [.bool false,y]]/\Dn h' n' x (aK (s.take (ai s)))/\Dn h' n' y (aK (s.drop (ai s+1)))):=by
 intro w
 rw[aV,A.k64 (by simp)]
 have cZ:=fun st=>De (s:=s) (st:=st) (by omega)
 have c1:¬((ai s:Int)=(s.length:Int)):=by omega
 have c2:¬(ai s=s.length):=by omega
 have c3:(ai s:Int)<=(s.length:Int):=by omega
 have c4:(ai s:Int)+1<=(s.length:Int):=by omega
 have c5:((ai s:Int)+1).toNat=ai s+1:=by omega
 simp(disch:=first|(simp;done)|omega|(simp only[Zab,aq,ak];omega)|rfl) [-getElem?_pos,A.b64,cZ,c1,c2,c3,c4,c5,aL,aC]
 refine az (Uu hp p1 (by simp;omega)) ?_
 rintro v1 h1 n1 k1 ⟨x,rfl,hx⟩
 have nx:¬((aK (s.take (ai s)):Nat):Int)<0:=by omega
 simp(disch:=first|(simp;done)|omega|(simp only[Zab,aq,ak];omega)|rfl) [-getElem?_pos,cZ,c1,c2,c3,c4,c5,aL,aC,nx]
 refine az (Uu hd d1 (by simp;omega)) ?_
 rintro v2 h2 n2 k2 ⟨y,rfl,hy⟩
 have ny:¬((aK (s.drop (ai s+1)):Nat):Int)<0:=by omega
 have ft:=k1.le
 have gJ:=k2.le
 have hx:=Dn.ah hx k2
 have r0:=(k2.get N (by omega)).trans (k1.get N (by omega))
 have r1:=(k2.get (N+1) (by omega)).trans (k1.get (N+1) (by omega))
 simp at r0 r1
 have jo:∀u∈([.bool false,.aa]:List V),∀k n,u≠V.int k n:=by intro u hu k n;simp at hu;rcases hu with rfl|rfl<;>simp
 have vM:=(Sl.form hx).one
 have xc:=(Sl.form hy).one
 unfold V.one at vM xc
 have Q7:N<n1:=by omega
 have Q8:N<n2:=by omega
 have Q9:N+1<n2:=by omega
 have d4':¬N+1=N:=by omega
 simp(disch:=first|(simp;done)|omega|(simp only[Zab,aq,ak];omega)|rfl) [-getElem?_pos,r0,r1,ny,nx,ag,bE,vM,xc,Q7,Q8,Q9,aJ,aE,bU.bZ,aF]
 have zn:=Sl.setInt (i:=N) (c1:=[.bool false,x]) (e1:=92) (w1:=true) hx r0 jo rfl
 have rV:=Sl.setInt (i:=N) (c1:=[.bool false,x]) (e1:=92) (w1:=true) hy r0 jo rfl
 have KI:(h2.set N (.cells [.bool false,x] 92 true)).get (N+1)=some (.cells [.bool false,.aa] 92 true):=by rw[T.aj,aA (by omega)];exact r1
 have Lu:=Sl.setInt (i:=N+1) (c1:=[.bool false,y]) (e1:=92) (w1:=true) zn KI jo rfl
 have wj:=Sl.setInt (i:=N+1) (c1:=[.bool false,y]) (e1:=92) (w1:=true) rV KI jo rfl
 have k0:=((ae.refl (h:=h) (n:=N)).new (.cells [.bool false,.aa] 92 true)).new (.cells [.bool false,.aa] 92 true)
 exact⟨(((k0.trans k1).trans k2).set (aZ N)).set (by omega),x,y,⟨rfl,rfl⟩,Lu,wj⟩
def Uv{s:aU}(h:ja s=true):cN s=true/\1<=s.length:=by
 cases s with
 |nil=>cases h
 |cons c s=>
  unfold ja at h
  rw[ji]at h
  exact⟨h.1,by simp⟩
def Uw:ds 1=[1]:=by rw[Aa (by decide),sC];rfl
def Ux(h:cN s=true)(hl:s.length<=100000):(ds (aK s)).length<1000000000000:=by
 have h1:=Bt h
 have h2:(10:Nat)^s.length<=1000000000^s.length:=Dq (by decide) _
 have:=Mk (n:=aK s) (k:=s.length) (by omega)
 omega
def Zku{s:aU}(hl:s.length<9223372036854775808){h:T O}{N:Nat}:Fn A.C 49 [.str s] h N (fun v _ _=>v=.int .i64 (aY s:Nat)):=by
 intro w
 rw[aV,A.k49 (by simp)]
 cases s with
 |nil=>
  have cZ:=fun st=>De (s:=[]) (st:=st) (by simp)
  have fv:=fun st=>MZ (s:=[]) (st:=st) (by simp)
  simp(disch:=first|(simp;done)|omega|(simp only[Zab,aq,ak];omega)|rfl) [-getElem?_pos,A.b49,cZ,ai,aC,fv,ja,aF]
  exact⟨ae.refl,rfl⟩
 |cons c t=>
  by_cases h45:cR c=45
  ·have eI:aY (c::t)=kj true (t.take (ai t)) (decide (ai t<t.length)) (t.drop (ai t+1)):=by
    have:c.toNat=45:=by unfold cR at h45;omega
    simp[aY,Mi,cP,bu,this]
   rw[eI]
   have cK:(0:Int)<(t.length:Int)+1:=by omega
   have cI:∀st:St,Zcg st (some (.str (c::t))) (some (some (.int .i64 1))) (some none)=some (.str t,st):=fun st=>by rw[BK (by omega) (by simp only[ak];omega)];rfl
   have cZ:=fun st=>De (s:=t) (st:=st) (by simp at hl;omega)
   have fv:=fun st=>MZ (s:=t.take (ai t)) (st:=st) (by simp at hl ⊢;omega)
   have fY:(ai t:Int)<=(t.length:Int):=by have:=BQ t;omega
   have fM:ai t<=t.length:=BQ t
   have Cv:(t.take (ai t)).length=ai t:=by simp;omega
   have lK:(t.drop (ai t+1)).length=t.length-(ai t+1):=by simp
   have dv:=h45
   have gw:=h45
   have oX:=h45
   simp at hl
   generalize hp:t.take (ai t)=p at*
   generalize lS:t.drop (ai t+1)=d at*
   by_cases hA:ja p=true
   ·by_cases hz:p=[48]
    ·have e1:(p==[48])=true:=by simp[hz]
     simp(disch:=first|(simp;done)|omega|(simp only[Zab,aq,ak];omega)|rfl) [-getElem?_pos,A.b49,cK,cI,cZ,fv,fY,fM,hp,lS,aC,aL,dv,gw,oX,hA,e1,aF]
     exact⟨ae.refl,by simp[kj,gH,hz]⟩
    ·have e1:(p==[48])=false:=by simp[hz]
     by_cases px:ai t<t.length
     ·have gg:(ai t:Int)<(t.length:Int):=by omega
      have pG:=fun st=>MZ (s:=d) (st:=st) (by omega)
      by_cases hD:ja d=true
      ·by_cases h48:d=[48]
       ·have e8:(d==[48])=true:=by simp[h48]
        simp(disch:=first|(simp;done)|omega|(simp only[Zab,aq,ak];omega)|rfl) [-getElem?_pos,A.b49,cK,cI,cZ,fv,fY,fM,hp,lS,aC,aL,dv,gw,oX,hA,e1,px,gg,pG,hD,e8,aF]
        exact⟨ae.refl,by simp[kj,gH,h48]⟩
       ·have e8:(d==[48])=false:=by simp[h48]
        by_cases yD:d=[49]
        ·have e9:(d==[49])=true:=by simp[yD]
         simp(disch:=first|(simp;done)|omega|(simp only[Zab,aq,ak];omega)|rfl) [-getElem?_pos,A.b49,cK,cI,cZ,fv,fY,fM,hp,lS,aC,aL,dv,gw,oX,hA,e1,px,gg,pG,hD,e8,e9,aF]
         exact⟨ae.refl,by simp[kj,gH,yD]⟩
        ·have e9:(d==[49])=false:=by simp[yD]
         have dM:gH true p true d=true:=by simp[gH,hA,hD,h48,yD,hz]
         by_cases b6:600<p.length
         ·have b6':(600:Int)<(ai t:Int):=by omega
          simp(disch:=first|(simp;done)|omega|(simp only[Zab,aq,ak];omega)|rfl) [-getElem?_pos,A.b49,cK,cI,cZ,fv,fY,fM,hp,lS,aC,aL,dv,gw,oX,hA,e1,px,gg,pG,hD,e8,e9,b6',aF]
          exact⟨ae.refl,by simp[kj,dM,b6]⟩
         ·have b6':¬(600:Int)<(ai t:Int):=by omega
          by_cases b7:600<d.length
          ·have b7':(600:Int)<(t.length:Int)-(ai t:Int)-1:=by omega
           simp(disch:=first|(simp;done)|omega|(simp only[Zab,aq,ak];omega)|rfl) [-getElem?_pos,A.b49,cK,cI,cZ,fv,fY,fM,hp,lS,aC,aL,dv,gw,oX,hA,e1,px,gg,pG,hD,e8,e9,b6',b7',aF]
           exact⟨ae.refl,by simp[kj,dM,b6,b7]⟩
          ·have b7':¬(600:Int)<(t.length:Int)-(ai t:Int)-1:=by omega
           obtain⟨pa,pb⟩:=Uv hA
           obtain⟨da,db⟩:=Uv hD
           simp(disch:=first|(simp;done)|omega|(simp only[Zab,aq,ak];omega)|rfl) [-getElem?_pos,A.b49,cK,cI,cZ,fv,fY,fM,hp,lS,aC,aL,dv,gw,oX,hA,e1,px,gg,pG,hD,e8,e9,b6',b7']
           refine az (Zqq px (by rw[hp];exact pa) (by rw[lS];exact da) (by rw[hp];exact pb) (by rw[lS];exact db) (by omega)) ?_
           rintro v1 h1 n1 k1 ⟨x,y,rfl,hx,hy⟩
           rw[hp]at hx
           rw[lS]at hy
           have vM:=(Sl.form hx).one
           have xc:=(Sl.form hy).one
           unfold V.one at vM xc
           have kx:=((((ae.refl (h:=h1) (n:=n1)).new (.cells [.bool false,.aa] 92 true)).new (.cells [.bool false,.aa] 92 true)).set (i:=n1) (o:=.cells [.bool false,x] 92 true) (aZ n1)).set (i:=n1+1) (o:=.cells [.bool false,y] 92 true) (by omega)
           simp(disch:=first|(simp;done)|omega|(simp only[Zab,aq,ak];omega)|rfl) [-getElem?_pos,ag,bE,vM,xc]
           refine az (Ur (hx.ah kx) (hy.ah kx) (Ux pa (by omega)) (Ux da (by omega))) ?_
           rintro z h2 n2 k2 fS
           have kk:=(k1.trans kx).trans k2
           have lz:=fS.len
           rw[g_]at lz
           have mq:¬n1<N:=by have:=k1.le;omega
           have mr:¬n1+1<N:=by have:=k1.le;omega
           generalize hG:Nat.gcd (aK p) (aK d)=G at*
           by_cases g1:G=1
           ·subst g1
            rw[Uw]at lz
            obtain⟨b1,b2,b3,b4,b5,z1,z2,z3,z4⟩:=Sl.at (show Sl h2 n2 z (dI [1]) from Uw▸fS) (j:=0) (x:=.int .i64 1) rfl
            simp at z4
            simp(disch:=first|(simp;done)|omega|(simp only[Zab,aq,ak];omega)|rfl) [-getElem?_pos,lz,z1,z3,z4,aL,aF,mq,mr]
            exact⟨kk,by simp[kj,dM,b6,b7,hG]⟩
           ·have tg:kj true p true d=1:=by simp[kj,dM,b6,b7,hG,g1]
            by_cases g2:(ds G).length=1
            ·obtain⟨gx,Ra⟩:=fz (l:=ds G) (k:=0) (by omega)
             obtain⟨b1,b2,b3,b4,b5,z1,z2,z3,z4⟩:=Sl.at (show Sl h2 n2 z (dI (ds G)) from fS) (gQ Ra)
             simp at z4
             have gne:¬gx=1:=fun hc=>g1 (by
              have hv:=gI G
              rw[QL Ra,zv (by omega)]at hv
              simp[vI,pI]at hv
              omega)
             simp(disch:=first|(simp;done)|omega|(simp only[Zab,aq,ak];omega)|rfl) [-getElem?_pos,lz,g2,z1,z3,z4,gne,aL,aF,mq,mr,tg]
             exact kk
            ·have Qy:¬((ds G).length:Int)=1:=by omega
             simp(disch:=first|(simp;done)|omega|(simp only[Zab,aq,ak];omega)|rfl) [-getElem?_pos,lz,g2,Qy,aL,aF,mq,mr,tg]
             exact kk
      ·have hD:ja d=false:=by simpa using hD
       simp(disch:=first|(simp;done)|omega|(simp only[Zab,aq,ak];omega)|rfl) [-getElem?_pos,A.b49,cK,cI,cZ,fv,fY,fM,hp,lS,aC,aL,dv,gw,oX,hA,e1,px,gg,pG,hD,aF]
       exact⟨ae.refl,by simp[kj,gH,hD]⟩
     ·have zez:ai t=t.length:=by omega
      have gg:¬(ai t:Int)<(t.length:Int):=by omega
      have dM:gH true p false d=true:=by simp[gH,hA,hz]
      have dl0:¬600<d.length:=by omega
      have b7':¬(600:Int)<(t.length:Int)-(ai t:Int)-1:=by omega
      by_cases b6:600<p.length
      ·have b6':(600:Int)<(ai t:Int):=by omega
       simp(disch:=first|(simp;done)|omega|(simp only[Zab,aq,ak];omega)|rfl) [-getElem?_pos,A.b49,cK,cI,cZ,fv,fY,fM,hp,lS,aC,aL,dv,gw,oX,hA,e1,px,gg,b6',aF]
       exact⟨ae.refl,by simp[kj,dM,b6]⟩
      ·have b6':¬(600:Int)<(ai t:Int):=by omega
       simp(disch:=first|(simp;done)|omega|(simp only[Zab,aq,ak];omega)|rfl) [-getElem?_pos,A.b49,cK,cI,cZ,fv,fY,fM,hp,lS,aC,aL,dv,gw,oX,hA,e1,px,gg,b6',b7',aF]
       exact⟨ae.refl,by simp[kj,dM,b6,dl0]⟩
   ·have hA:ja p=false:=by simpa using hA
    simp(disch:=first|(simp;done)|omega|(simp only[Zab,aq,ak];omega)|rfl) [-getElem?_pos,A.b49,cK,cI,cZ,fv,fY,fM,hp,lS,aC,aL,dv,gw,oX,hA,aF]
    exact⟨ae.refl,by simp[kj,gH,hA]⟩
  ·have Rb:cP (c::t)=false:=by
    simp only[cP,decide_eq_false_iff_not];unfold cR at h45;omega
   obtain⟨t,ht⟩:∃t',t'=c::t:=⟨c::t,rfl⟩
   rw[<-ht]at hl Rb ⊢
   have gw:t[0]?=some c:=by rw[ht];rfl
   have dv:t.head?=some c:=by rw[ht];rfl
   have hlen:0<t.length:=by rw[ht];simp
   have oX:t≠[]:=by rw[ht];simp
   have fy:(0:Int)<(t.length:Int):=by omega
   have cK:0<t.length:=hlen
   have cI:True:=trivial
   clear ht
   have eI:aY t=kj false (t.take (ai t)) (decide (ai t<t.length)) (t.drop (ai t+1)):=by
    simp[aY,Mi,bu,Rb]
   rw[eI]
   have cZ:=fun st=>De (s:=t) (st:=st) (by omega)
   have fv:=fun st=>MZ (s:=t.take (ai t)) (st:=st) (by simp;omega)
   have fY:(ai t:Int)<=(t.length:Int):=by have:=BQ t;omega
   have fM:ai t<=t.length:=BQ t
   have Cv:(t.take (ai t)).length=ai t:=by simp;omega
   have lK:(t.drop (ai t+1)).length=t.length-(ai t+1):=by simp
   generalize hp:t.take (ai t)=p at*
   generalize lS:t.drop (ai t+1)=d at*
   by_cases hA:ja p=true
   ·have e1:True:=trivial
    by_cases px:ai t<t.length
    ·have gg:(ai t:Int)<(t.length:Int):=by omega
     have pG:=fun st=>MZ (s:=d) (st:=st) (by omega)
     by_cases hD:ja d=true
     ·by_cases h48:d=[48]
      ·have e8:(d==[48])=true:=by simp[h48]
       simp(disch:=first|(simp;done)|omega|(simp only[Zab,aq,ak];omega)|rfl) [-getElem?_pos,A.b49,cK,cI,cZ,fv,fY,fM,hp,lS,aC,aL,dv,gw,oX,h45,fy,hA,e1,px,gg,pG,hD,e8,aF]
       exact⟨ae.refl,by simp[kj,gH,h48]⟩
      ·have e8:(d==[48])=false:=by simp[h48]
       by_cases yD:d=[49]
       ·have e9:(d==[49])=true:=by simp[yD]
        simp(disch:=first|(simp;done)|omega|(simp only[Zab,aq,ak];omega)|rfl) [-getElem?_pos,A.b49,cK,cI,cZ,fv,fY,fM,hp,lS,aC,aL,dv,gw,oX,h45,fy,hA,e1,px,gg,pG,hD,e8,e9,aF]
        exact⟨ae.refl,by simp[kj,gH,yD]⟩
       ·have e9:(d==[49])=false:=by simp[yD]
        have dM:gH false p true d=true:=by simp[gH,hA,hD,h48,yD]
        by_cases b6:600<p.length
        ·have b6':(600:Int)<(ai t:Int):=by omega
         simp(disch:=first|(simp;done)|omega|(simp only[Zab,aq,ak];omega)|rfl) [-getElem?_pos,A.b49,cK,cI,cZ,fv,fY,fM,hp,lS,aC,aL,dv,gw,oX,h45,fy,hA,e1,px,gg,pG,hD,e8,e9,b6',aF]
         exact⟨ae.refl,by simp[kj,dM,b6]⟩
        ·have b6':¬(600:Int)<(ai t:Int):=by omega
         by_cases b7:600<d.length
         ·have b7':(600:Int)<(t.length:Int)-(ai t:Int)-1:=by omega
          simp(disch:=first|(simp;done)|omega|(simp only[Zab,aq,ak];omega)|rfl) [-getElem?_pos,A.b49,cK,cI,cZ,fv,fY,fM,hp,lS,aC,aL,dv,gw,oX,h45,fy,hA,e1,px,gg,pG,hD,e8,e9,b6',b7',aF]
          exact⟨ae.refl,by simp[kj,dM,b6,b7]⟩
         ·have b7':¬(600:Int)<(t.length:Int)-(ai t:Int)-1:=by omega
          obtain⟨pa,pb⟩:=Uv hA
          obtain⟨da,db⟩:=Uv hD
          simp(disch:=first|(simp;done)|omega|(simp only[Zab,aq,ak];omega)|rfl) [-getElem?_pos,A.b49,cK,cI,cZ,fv,fY,fM,hp,lS,aC,aL,dv,gw,oX,h45,fy,hA,e1,px,gg,pG,hD,e8,e9,b6',b7']
          refine az (Zqq px (by rw[hp];exact pa) (by rw[lS];exact da) (by rw[hp];exact pb) (by rw[lS];exact db) (by omega)) ?_
          rintro v1 h1 n1 k1 ⟨x,y,rfl,hx,hy⟩
          rw[hp]at hx
          rw[lS]at hy
          have vM:=(Sl.form hx).one
          have xc:=(Sl.form hy).one
          unfold V.one at vM xc
          have kx:=((((ae.refl (h:=h1) (n:=n1)).new (.cells [.bool false,.aa] 92 true)).new (.cells [.bool false,.aa] 92 true)).set (i:=n1) (o:=.cells [.bool false,x] 92 true) (aZ n1)).set (i:=n1+1) (o:=.cells [.bool false,y] 92 true) (by omega)
          simp(disch:=first|(simp;done)|omega|(simp only[Zab,aq,ak];omega)|rfl) [-getElem?_pos,ag,bE,vM,xc]
          refine az (Ur (hx.ah kx) (hy.ah kx) (Ux pa (by omega)) (Ux da (by omega))) ?_
          rintro z h2 n2 k2 fS
          have kk:=(k1.trans kx).trans k2
          have lz:=fS.len
          rw[g_]at lz
          have mq:¬n1<N:=by have:=k1.le;omega
          have mr:¬n1+1<N:=by have:=k1.le;omega
          generalize hG:Nat.gcd (aK p) (aK d)=G at*
          by_cases g1:G=1
          ·subst g1
           rw[Uw]at lz
           obtain⟨b1,b2,b3,b4,b5,z1,z2,z3,z4⟩:=Sl.at (show Sl h2 n2 z (dI [1]) from Uw▸fS) (j:=0) (x:=.int .i64 1) rfl
           simp at z4
           simp(disch:=first|(simp;done)|omega|(simp only[Zab,aq,ak];omega)|rfl) [-getElem?_pos,lz,z1,z3,z4,aL,aF,mq,mr]
           exact⟨kk,by simp[kj,dM,b6,b7,hG]⟩
          ·have tg:kj false p true d=1:=by simp[kj,dM,b6,b7,hG,g1]
           by_cases g2:(ds G).length=1
           ·obtain⟨gx,Ra⟩:=fz (l:=ds G) (k:=0) (by omega)
            obtain⟨b1,b2,b3,b4,b5,z1,z2,z3,z4⟩:=Sl.at (show Sl h2 n2 z (dI (ds G)) from fS) (gQ Ra)
            simp at z4
            have gne:¬gx=1:=fun hc=>g1 (by
             have hv:=gI G
             rw[QL Ra,zv (by omega)]at hv
             simp[vI,pI]at hv
             omega)
            simp(disch:=first|(simp;done)|omega|(simp only[Zab,aq,ak];omega)|rfl) [-getElem?_pos,lz,g2,z1,z3,z4,gne,aL,aF,mq,mr,tg]
            exact kk
           ·have Qy:¬((ds G).length:Int)=1:=by omega
            simp(disch:=first|(simp;done)|omega|(simp only[Zab,aq,ak];omega)|rfl) [-getElem?_pos,lz,g2,Qy,aL,aF,mq,mr,tg]
            exact kk
     ·have hD:ja d=false:=by simpa using hD
      simp(disch:=first|(simp;done)|omega|(simp only[Zab,aq,ak];omega)|rfl) [-getElem?_pos,A.b49,cK,cI,cZ,fv,fY,fM,hp,lS,aC,aL,dv,gw,oX,h45,fy,hA,e1,px,gg,pG,hD,aF]
      exact⟨ae.refl,by simp[kj,gH,hD]⟩
    ·have zez:ai t=t.length:=by omega
     have gg:¬(ai t:Int)<(t.length:Int):=by omega
     have dM:gH false p false d=true:=by simp[gH,hA]
     have dl0:¬600<d.length:=by omega
     have b7':¬(600:Int)<(t.length:Int)-(ai t:Int)-1:=by omega
     by_cases b6:600<p.length
     ·have b6':(600:Int)<(ai t:Int):=by omega
      simp(disch:=first|(simp;done)|omega|(simp only[Zab,aq,ak];omega)|rfl) [-getElem?_pos,A.b49,cK,cI,cZ,fv,fY,fM,hp,lS,aC,aL,dv,gw,oX,h45,fy,hA,e1,px,gg,b6',aF]
      exact⟨ae.refl,by simp[kj,dM,b6]⟩
     ·have b6':¬(600:Int)<(ai t:Int):=by omega
      simp(disch:=first|(simp;done)|omega|(simp only[Zab,aq,ak];omega)|rfl) [-getElem?_pos,A.b49,cK,cI,cZ,fv,fY,fM,hp,lS,aC,aL,dv,gw,oX,h45,fy,hA,e1,px,gg,b6',b7',aF]
      exact⟨ae.refl,by simp[kj,dM,b6,dl0]⟩
   ·have hA:ja p=false:=by simpa using hA
    simp(disch:=first|(simp;done)|omega|(simp only[Zab,aq,ak];omega)|rfl) [-getElem?_pos,A.b49,cK,cI,cZ,fv,fY,fM,hp,lS,aC,aL,dv,gw,oX,h45,fy,hA,aF]
    exact⟨ae.refl,by simp[kj,gH,hA]⟩
def Yaj(hl:s.length<=100000){h:T O}{N:Nat}:Fn A.C 49 [.str s] h N (fun v _ _=>v=.int .i64 (aY s:Nat)):=Zku (by omega)
variable {N:Nat} {a b:Int} {h:T O} {x y:V}
def A.b65:=A.q Tryz.f65
def A.k65:=@A.kk 65 57 [.tmp 4] A.b65 (by kernel_rfl) rfl
def Rc(hb:0<b):b.natAbs/Nat.gcd a.natAbs b.natAbs=(Rat.divInt a b).den:=by
 have h:((Rat.divInt a b).den:Int)=((b.natAbs/Nat.gcd a.natAbs b.natAbs:Nat):Int):=by
  rw[Rat.den_divInt,aA (by omega),Int.gcd_comm]
  rfl
 exact(Int.ofNat_inj.1 h).symm
def NR(hb:0<b):(if decide (a<0)=true then -((a.natAbs/Nat.gcd a.natAbs b.natAbs:Nat):Int) else ((a.natAbs/Nat.gcd a.natAbs b.natAbs:Nat):Int))=(Rat.divInt a b).num:=by
 rw[Rat.num_divInt,Int.sign_eq_one_of_pos hb,Int.one_mul,Int.gcd_comm]
 have hd:((Int.gcd a b:Nat):Int)∣a:=Int.gcd_dvd_left ..
 have he:Nat.gcd a.natAbs b.natAbs=Int.gcd a b:=rfl
 rw[he,Int.natCast_ediv]
 by_cases ha:a<0
 ·have h1:(a.natAbs:Int)= -a:=by omega
  simp only[ha,decide_true,if_true,h1]
  rw[Int.neg_ediv_of_dvd hd,Int.neg_neg]
 ·have h1:(a.natAbs:Int)=a:=by omega
  simp[ha,h1]
def Yc5{z:Int}:(aR z).length<=9*(ds z.natAbs).length+2:=by
 have:=Re (n:=z.natAbs)
 unfold aR
 split<;>simp<;>omega
def Yhz{m e:Nat}(h0:0<m)(he:m%1000000000=e):m=1↔(ds m).length=1/\e=1:=by
 constructor
 ·rintro rfl
  exact⟨by have:=Yhy (r:=1) (by omega);rw[<-this];decide,by omega⟩
 ·rintro⟨h1,h2⟩
  have h3:=vz (gm m)
  rw[gI,h1,Tp,Nat.pow_one]at h3
  omega
def Zrq(hx:Rg h N x a)(hy:Rg h N y b)(hb:0<b)(l3:(ds a.natAbs).length<100000000000)(l4:(ds b.natAbs).length<100000000000):Fn A.C 65 [x,y] h N (fun u _ _=>u=.str (ax (Rat.divInt a b))):=by
 intro w
 obtain⟨u,rfl,mU⟩:=hx
 obtain⟨v,rfl,oz⟩:=hy
 have o1:=Sl.form mU |>.one
 have o2:=Sl.form mU |>.cells
 have o3:=Sl.form oz |>.one
 have o4:=Sl.form oz |>.cells
 unfold V.one at o1 o3
 unfold V.cells at o2 o4
 have l1:(ds a.natAbs).length<1000000000000:=by omega
 have l2:(ds b.natAbs).length<1000000000000:=by omega
 have tU:¬b<0:=by omega
 rw[show decide (b<0)=false by simp[tU]]
 have kB:=(((ae.refl (h:=h) (n:=N)).new (.cells [.bool (decide (a<0)),u] 92 true)).new (.cells [.bool false,v] 92 true))
 have hu:=Sl.ah mU kB
 have hv:=Sl.ah oz kB
 rw[aV,A.k65 (by simp)]
 simp(disch:=first|(simp;done)|omega|rfl) [-getElem?_pos,A.b65,o1,o2,o3,o4,ag,aJ,aE,aL,tU]
 generalize hB:(h.set N (.cells [.bool (decide (a<0)),u] 92 true)).set (N+1) (.cells [.bool false,v] 92 true)=HB at*
 have gN:HB.get N=some (.cells [.bool (decide (a<0)),u] 92 true):=by rw[<-hB];simp
 have gM:HB.get (N+1)=some (.cells [.bool false,v] 92 true):=by rw[<-hB];simp
 refine az (Ur hu hv l1 l2) ?_
 rintro v1 h1 n1 k1 q1
 have zc:=(k1.get N (by omega)).trans gN
 have C5:=(k1.get (N+1) (by omega)).trans gM
 have BZ:0<Nat.gcd a.natAbs b.natAbs:=SJ _ (by omega)
 have lg:(ds (Nat.gcd a.natAbs b.natAbs)).length<1000000000000:=lG (ud (Nat.gcd_le_right _ (by omega))) l2
 have uw:=k1.le
 simp(disch:=first|(simp;done)|omega|rfl) [-getElem?_pos,zc,C5,o1,o2,o3,o4,ag,aJ,aE]
 refine az (Q1 (hu.ah k1) q1 BZ l1 lg) ?_
 rintro _ h2 n2 k2 ⟨q,r1,rfl,q2, -⟩
 have KK:=(k2.get (N+1) (by omega)).trans C5
 have oP:=k2.le
 simp(disch:=first|(simp;done)|omega|rfl) [-getElem?_pos,KK,o1,o2,o3,o4,ag,aJ,aE]
 refine az (Q1 ((hv.ah k1).ah k2) (q1.ah k2) BZ l2 lg) ?_
 rintro _ h3 n3 k3 ⟨d,r2,rfl,q3, -⟩
 have gN3:=(k3.get N (by omega)).trans ((k2.get N (by omega)).trans zc)
 have xX:=k3.le
 rw[Rc hb]at q3
 have lq:(ds (a.natAbs/Nat.gcd a.natAbs b.natAbs)).length<100000000000:=lG (ud (uZ _ _)) l3
 have Au:(ds (Rat.divInt a b).den).length<100000000000:=by rw[<-Rc hb];exact lG (ud (uZ _ _)) l4
 simp(disch:=first|(simp;done)|omega|rfl) [-getElem?_pos,gN3,o1,o2,o3,o4,ag,aJ,aE]
 refine az (vS (n:=a.natAbs/Nat.gcd a.natAbs b.natAbs) (q2.ah k3) (gm _) (gI _) (by omega)) ?_
 rintro v4 h4 n4 k4 q4
 have Nb:=k4.le
 rw[NR hb]at q4
 simp(disch:=first|(simp;done)|omega|rfl) [-getElem?_pos,]
 refine az (MK q4 (by rw[<-NR hb];split<;>(first|rw[A7,eG]|rw[eG])<;>exact lq)) ?_
 rintro _ h5 n5 k5 rfl
 have NC:=k5.le
 obtain⟨m,hm⟩:∃m,(Rat.divInt a b).den=m:=⟨_,rfl⟩
 have uV:0<m:=by rw[<-hm];exact Rat.den_pos _
 rw[hm]at q3 Au
 have cZ:=Yc5 (z:=(Rat.divInt a b).num)
 have KL:(ds (Rat.divInt a b).num.natAbs).length<100000000000:=by rw[<-NR hb];split<;>(first|rw[A7,eG]|rw[eG])<;>exact lq
 have lP:ax (Rat.divInt a b)=if m=1 then aR (Rat.divInt a b).num else aR (Rat.divInt a b).num++47::av m:=by unfold ax;rw[hm]
 rw[lP]
 generalize aR (Rat.divInt a b).num=s at*
 have C6:Dn h5 n5 d m:=(q3.ah k4).ah k5
 have ld:=Sl.len C6
 rw[g_]at ld
 have tv:(ds m).length≠0:=fun hc=>(by omega:m≠0) (BG.1 (kJ hc))
 have hg:=Tn (i:=0) (n:=m) (by omega)
 rw[AH,Nat.div_one]at hg
 obtain⟨e,he⟩:∃e,m%1000000000=e:=⟨_,rfl⟩
 rw[he]at hg
 have sA:m=1↔(ds m).length=1/\e=1:=Yhz uV he
 obtain⟨i,o,c,te,rw_,p1,p2,p3,p4⟩:=Sl.at C6 (gQ hg)
 rw[tF]at p4
 obtain⟨L,hL⟩:∃L,(ds m).length=L:=⟨_,rfl⟩
 rw[hL]at ld sA
 have lK:=Re (n:=m)
 rw[hL]at lK Au
 have dP:IntKind.max .i64=9223372036854775807:=rfl
 have b1:¬(9223372036854775807:Int)<(s.length:Int)+1:=by omega
 have b2:¬(9223372036854775807:Int)<(s.length:Int)+1+((av m).length:Int):=by omega
 have KM:aR (m:Int)=av m:=by unfold aR;rw[aA (by omega),eG]
 have vO:(ds m).length<1152921504606846976:=by omega
 have K5:ae h N h5 n5:=((((kB.trans k1).trans k2).trans k3).trans k4).trans k5
 by_cases pj:m=1
 ·obtain⟨rfl,rfl⟩:=sA.1 pj
  rw[aQ pj]
  clear cZ KL lK b1 b2 vO Au
  simp(disch:=first|(simp;done)|omega|rfl) [-getElem?_pos,ld,p1,p3,p4,ag,aF,aL]
  exact K5
 ·rw[aA pj]
  by_cases ya:L=1
  ·have he1:¬e=1:=fun hc=>pj (sA.2 ⟨ya,hc⟩)
   have xu:¬(e:Int)=1:=by omega
   subst ya
   clear cZ KL lK
   simp(disch:=first|(simp;done)|omega|rfl) [-getElem?_pos,ld,p1,p3,p4,ag,aF,aL,he1,xu,iX,dP,b1]
   refine az (vS (b:=false) (n:=m) C6 (gm _) (gI _) vO) ?_
   rintro v6 h6 n6 k6 q6
   have q7:Rg h6 n6 v6 (m:Int):=by simpa using q6
   simp(disch:=first|(simp;done)|omega|rfl) [-getElem?_pos,]
   refine az (MK q7 (by rw[eG,hL];exact Au)) ?_
   rintro _ h7 n7 k7 rfl
   rw[KM]
   simp(disch:=first|(simp;done)|omega|rfl) [-getElem?_pos,iX,dP,b2,aF]
   exact(K5.trans k6).trans k7
  ·have Lb:¬(L:Int)=1:=by omega
   clear cZ KL lK
   simp(disch:=first|(simp;done)|omega|rfl) [-getElem?_pos,ld,ya,Lb,ag,aF,aL,iX,dP,b1]
   refine az (vS (b:=false) (n:=m) C6 (gm _) (gI _) vO) ?_
   rintro v6 h6 n6 k6 q6
   have q7:Rg h6 n6 v6 (m:Int):=by simpa using q6
   simp(disch:=first|(simp;done)|omega|rfl) [-getElem?_pos,]
   refine az (MK q7 (by rw[eG,hL];exact Au)) ?_
   rintro _ h7 n7 k7 rfl
   rw[KM]
   simp(disch:=first|(simp;done)|omega|rfl) [-getElem?_pos,iX,dP,b2,aF]
   exact(K5.trans k6).trans k7
def Zrr{P Q:Int}(hx:Rg h N x P)(hy:Rg h N y Q)(uz:Q<0)(l3:(ds P.natAbs).length<100000000000)(l4:(ds Q.natAbs).length<100000000000):Fn A.C 65 [x,y] h N (fun u _ _=>u=.str (ax (Rat.divInt P Q))):=by
 intro w
 obtain⟨u0,rfl,mU⟩:=hx
 obtain⟨v0,rfl,oz⟩:=hy
 have o1:=Sl.form mU |>.one
 have o2:=Sl.form mU |>.cells
 have o3:=Sl.form oz |>.one
 have o4:=Sl.form oz |>.cells
 unfold V.one at o1 o3
 unfold V.cells at o2 o4
 have ry:Rg h N (.agg [.bool (decide (P<0)),u0]) P:=⟨u0,rfl,mU⟩
 have wU:Rg h N (.agg [.bool true,v0]) Q:=⟨v0,by simp[uz],oz⟩
 rw[show decide (Q<0)=true by simp[uz]]
 have kA:=(((ae.refl (h:=h) (n:=N)).new (.cells [.bool (decide (P<0)),u0] 92 true)).new (.cells [.bool true,v0] 92 true))
 rw[aV,A.k65 (by simp)]
 simp(disch:=first|(simp;done)|omega|rfl) [-getElem?_pos,A.b65,o1,o2,o3,o4,ag,aJ,aE,aL]
 generalize hA:(h.set N (.cells [.bool (decide (P<0)),u0] 92 true)).set (N+1) (.cells [.bool true,v0] 92 true)=HA at*
 have gN0:HA.get N=some (.cells [.bool (decide (P<0)),u0] 92 true):=by rw[<-hA];simp
 have gM0:HA.get (N+1)=some (.cells [.bool true,v0] 92 true):=by rw[<-hA];simp
 refine az (Zvq (ry.ah kA) (by omega)) ?_
 rintro _ m1 t1 j1 q1
 obtain⟨a,ha⟩:∃a,a= -P:=⟨_,rfl⟩
 rw[<-ha]at q1
 obtain⟨u,rfl,zZ⟩:=q1
 have i1:=j1.le
 have zc:=(j1.get N (by omega)).trans gN0
 have C5:=(j1.get (N+1) (by omega)).trans gM0
 simp(disch:=first|(simp;done)|omega|rfl) [-getElem?_pos,C5,zc,o1,o2,o3,o4,ag,aJ,aE]
 refine az (Zvq ((wU.ah kA).ah j1) (by omega)) ?_
 rintro _ m2 t2 j2 q2
 obtain⟨b,nO⟩:∃b,b= -Q:=⟨_,rfl⟩
 rw[<-nO]at q2
 have hb:0<b:=by omega
 obtain⟨v,rfl,jQ⟩:=q2
 rw[show decide (b<0)=false by simp;omega]
 have ml:Rat.divInt P Q=Rat.divInt a b:=by rw[ha,nO];exact(Rat.neg_divInt_neg P Q).symm
 rw[ml]
 have n1:=Ymn (b:=decide (P<0)) (Sl.form mU)
 have n2:=Ymn (b:=true) (Sl.form oz)
 have i2:=j2.le
 have Uy:=(j2.get N (by omega)).trans zc
 have KK:=(j2.get (N+1) (by omega)).trans C5
 have s1:=Sl.form zZ |>.one
 have s2:=Sl.form zZ |>.cells
 have s3:=Sl.form jQ |>.one
 have s4:=Sl.form jQ |>.cells
 unfold V.one at s1 s3
 unfold V.cells at s2 s4
 have g1:N+1<t1:=by omega
 have g2:N+1<t2:=by omega
 have g3:N<t2:=by omega
 simp(disch:=first|(simp;done)|omega|rfl) [-getElem?_pos,Uy,KK,s1,s2,s3,s4,ag,bE,aJ,aE,bU.bZ,g1,g2,g3]
 have gM3:(m2.set N (.cells [.bool (decide (a<0)),u] 92 true)).get (N+1)=some (.cells [.bool true,v0] 92 true):=by rw[T.aj,aA (by omega)];exact KK
 have kB:=((((kA.trans j1).trans j2).set (i:=N) (o:=.cells [.bool (decide (a<0)),u] 92 true) (by omega))).set (i:=N+1) (o:=.cells [.bool false,v] 92 true) (by omega)
 have hu:=Sl.setInt (Sl.setInt (zZ.ah j2) Uy n1 (c1:=[.bool (decide (a<0)),u]) (e1:=92) (w1:=true) rfl) gM3 n2 (c1:=[.bool false,v]) (e1:=92) (w1:=true) rfl
 have hv:=Sl.setInt (Sl.setInt jQ Uy n1 (c1:=[.bool (decide (a<0)),u]) (e1:=92) (w1:=true) rfl) gM3 n2 (c1:=[.bool false,v]) (e1:=92) (w1:=true) rfl
 generalize hB:(m2.set N (.cells [.bool (decide (a<0)),u] 92 true)).set (N+1) (.cells [.bool false,v] 92 true)=HB at*
 have gN:HB.get N=some (.cells [.bool (decide (a<0)),u] 92 true):=by rw[<-hB];simp
 have gM:HB.get (N+1)=some (.cells [.bool false,v] 92 true):=by rw[<-hB];simp
 have ea:a.natAbs=P.natAbs:=by omega
 have eb:b.natAbs=Q.natAbs:=by omega
 rw[<-ea]at l3
 rw[<-eb]at l4
 have l1:(ds a.natAbs).length<1000000000000:=by omega
 have l2:(ds b.natAbs).length<1000000000000:=by omega
 clear o1 o2 o3 o4
 have o1:=s1
 have o2:=s2
 have o3:=s3
 have o4:=s4
 clear s1 s2 s3 s4 gM3 Uy KK zc C5 gN0 gM0 n1 n2 hA ml
 refine az (Ur hu hv l1 l2) ?_
 rintro v1 h1 n1 k1 q1
 have zc:=(k1.get N (by omega)).trans gN
 have C5:=(k1.get (N+1) (by omega)).trans gM
 have BZ:0<Nat.gcd a.natAbs b.natAbs:=SJ _ (by omega)
 have lg:(ds (Nat.gcd a.natAbs b.natAbs)).length<1000000000000:=lG (ud (Nat.gcd_le_right _ (by omega))) l2
 have uw:=k1.le
 simp(disch:=first|(simp;done)|omega|rfl) [-getElem?_pos,zc,C5,o1,o2,o3,o4,ag,aJ,aE]
 refine az (Q1 (hu.ah k1) q1 BZ l1 lg) ?_
 rintro _ h2 n2 k2 ⟨q,r1,rfl,q2, -⟩
 have KK:=(k2.get (N+1) (by omega)).trans C5
 have oP:=k2.le
 simp(disch:=first|(simp;done)|omega|rfl) [-getElem?_pos,KK,o1,o2,o3,o4,ag,aJ,aE]
 refine az (Q1 ((hv.ah k1).ah k2) (q1.ah k2) BZ l2 lg) ?_
 rintro _ h3 n3 k3 ⟨d,r2,rfl,q3, -⟩
 have gN3:=(k3.get N (by omega)).trans ((k2.get N (by omega)).trans zc)
 have xX:=k3.le
 rw[Rc hb]at q3
 have lq:(ds (a.natAbs/Nat.gcd a.natAbs b.natAbs)).length<100000000000:=lG (ud (uZ _ _)) l3
 have Au:(ds (Rat.divInt a b).den).length<100000000000:=by rw[<-Rc hb];exact lG (ud (uZ _ _)) l4
 simp(disch:=first|(simp;done)|omega|rfl) [-getElem?_pos,gN3,o1,o2,o3,o4,ag,aJ,aE]
 refine az (vS (n:=a.natAbs/Nat.gcd a.natAbs b.natAbs) (q2.ah k3) (gm _) (gI _) (by omega)) ?_
 rintro v4 h4 n4 k4 q4
 have Nb:=k4.le
 rw[NR hb]at q4
 simp(disch:=first|(simp;done)|omega|rfl) [-getElem?_pos,]
 refine az (MK q4 (by rw[<-NR hb];split<;>(first|rw[A7,eG]|rw[eG])<;>exact lq)) ?_
 rintro _ h5 n5 k5 rfl
 have NC:=k5.le
 obtain⟨m,hm⟩:∃m,(Rat.divInt a b).den=m:=⟨_,rfl⟩
 have uV:0<m:=by rw[<-hm];exact Rat.den_pos _
 rw[hm]at q3 Au
 have cZ:=Yc5 (z:=(Rat.divInt a b).num)
 have KL:(ds (Rat.divInt a b).num.natAbs).length<100000000000:=by rw[<-NR hb];split<;>(first|rw[A7,eG]|rw[eG])<;>exact lq
 have lP:ax (Rat.divInt a b)=if m=1 then aR (Rat.divInt a b).num else aR (Rat.divInt a b).num++47::av m:=by unfold ax;rw[hm]
 rw[lP]
 generalize aR (Rat.divInt a b).num=s at*
 have C6:Dn h5 n5 d m:=(q3.ah k4).ah k5
 have ld:=Sl.len C6
 rw[g_]at ld
 have tv:(ds m).length≠0:=fun hc=>(by omega:m≠0) (BG.1 (kJ hc))
 have hg:=Tn (i:=0) (n:=m) (by omega)
 rw[AH,Nat.div_one]at hg
 obtain⟨e,he⟩:∃e,m%1000000000=e:=⟨_,rfl⟩
 rw[he]at hg
 have sA:m=1↔(ds m).length=1/\e=1:=Yhz uV he
 obtain⟨i,o,c,te,rw_,p1,p2,p3,p4⟩:=Sl.at C6 (gQ hg)
 rw[tF]at p4
 obtain⟨L,hL⟩:∃L,(ds m).length=L:=⟨_,rfl⟩
 rw[hL]at ld sA
 have lK:=Re (n:=m)
 rw[hL]at lK Au
 have dP:IntKind.max .i64=9223372036854775807:=rfl
 have b1:¬(9223372036854775807:Int)<(s.length:Int)+1:=by omega
 have b2:¬(9223372036854775807:Int)<(s.length:Int)+1+((av m).length:Int):=by omega
 have KM:aR (m:Int)=av m:=by unfold aR;rw[aA (by omega),eG]
 have vO:(ds m).length<1152921504606846976:=by omega
 have K5:ae h N h5 n5:=((((kB.trans k1).trans k2).trans k3).trans k4).trans k5
 by_cases pj:m=1
 ·obtain⟨rfl,rfl⟩:=sA.1 pj
  rw[aQ pj]
  clear cZ KL lK b1 b2 vO Au
  simp(disch:=first|(simp;done)|omega|rfl) [-getElem?_pos,ld,p1,p3,p4,ag,aF,aL]
  exact K5
 ·rw[aA pj]
  by_cases ya:L=1
  ·have he1:¬e=1:=fun hc=>pj (sA.2 ⟨ya,hc⟩)
   have xu:¬(e:Int)=1:=by omega
   subst ya
   clear cZ KL lK
   simp(disch:=first|(simp;done)|omega|rfl) [-getElem?_pos,ld,p1,p3,p4,ag,aF,aL,he1,xu,iX,dP,b1]
   refine az (vS (b:=false) (n:=m) C6 (gm _) (gI _) vO) ?_
   rintro v6 h6 n6 k6 q6
   have q7:Rg h6 n6 v6 (m:Int):=by simpa using q6
   simp(disch:=first|(simp;done)|omega|rfl) [-getElem?_pos,]
   refine az (MK q7 (by rw[eG,hL];exact Au)) ?_
   rintro _ h7 n7 k7 rfl
   rw[KM]
   simp(disch:=first|(simp;done)|omega|rfl) [-getElem?_pos,iX,dP,b2,aF]
   exact(K5.trans k6).trans k7
  ·have Lb:¬(L:Int)=1:=by omega
   clear cZ KL lK
   simp(disch:=first|(simp;done)|omega|rfl) [-getElem?_pos,ld,ya,Lb,ag,aF,aL,iX,dP,b1]
   refine az (vS (b:=false) (n:=m) C6 (gm _) (gI _) vO) ?_
   rintro v6 h6 n6 k6 q6
   have q7:Rg h6 n6 v6 (m:Int):=by simpa using q6
   simp(disch:=first|(simp;done)|omega|rfl) [-getElem?_pos,]
   refine az (MK q7 (by rw[eG,hL];exact Au)) ?_
   rintro _ h7 n7 k7 rfl
   rw[KM]
   simp(disch:=first|(simp;done)|omega|rfl) [-getElem?_pos,iX,dP,b2,aF]
   exact(K5.trans k6).trans k7
def Zm9(hx:Rg h N x a)(hy:Rg h N y b)(hb:b≠0)(l3:(ds a.natAbs).length<100000000000)(l4:(ds b.natAbs).length<100000000000):Fn A.C 65 [x,y] h N (fun u _ _=>u=.str (ax (Rat.divInt a b))):=by
 rcases Int.lt_or_gt_of_ne hb with hb|hb
 ·exact Zrr hx hy hb l3 l4
 ·exact Zrq hx hy hb l3 l4
def A.Rf:=A.q Tryz.f111
def A.rJ:=A.ql A.Rf 0 []
def A.b111:=(fun x0=>A.qb A.Rf [x0]) A.rJ
def A.k111:=@A.kk 111 12 [.tmp 4] A.b111 (by kernel_rfl) rfl
def Ych{a b:Nat}{st:St}(ha:a<9223372036854775808)(hb:b<9223372036854775808):A.C.call (.func 111 [] []) [.int .i64 a,.int .i64 b] st=some (.int .i64 (Nat.gcd a b:Nat),st):=by
 apply Call.eq
 rw[aV,A.k111 (by simp)]
 simp(disch:=first|(simp;done)|omega|rfl) [-getElem?_pos,A.b111]
 refine c_ [(0,1),(5,10)] (fun e r s1=>s1=⟨st.h,st.n,[]⟩/\e=.exit 0/\r.get 0=some (.int .i64 (Nat.gcd a b:Nat))) (fun q r s1=>s1=⟨st.h,st.n,[]⟩/\q<9223372036854775808/\r.get 1=some (.int .i64 q)/\∃k:Nat,k<9223372036854775808/\r.get 0=some (.int .i64 k)/\Nat.gcd k q=Nat.gcd a b) b ?_ ?_ ?_
 ·exact⟨rfl,hb,by simp,a,ha,by simp,rfl⟩
 ·rintro q r _ hr hf ⟨rfl,hq,h1,k,hk,h0,hg⟩
  rw[dk]
  by_cases hz:q=0
  ·subst hz
   rw[Nat.gcd_zero_right]at hg
   simp(disch:=first|(simp;done)|omega|rfl) [-getElem?_pos,A.rJ,hr,hf,h0,h1,hg]
  ·have i1:(0:Int)<(q:Int):=by omega
   have i2:0<q:=by omega
   have i3:¬(q:Int)=0:=by omega
   have t1:(k:Int).tmod q=((k%q:Nat):Int):=by rw[DH (by omega)];omega
   have t2:bn .i64 ((k%q:Nat):Int)=((k%q:Nat):Int):=cL (by omega) (by have:=kW k i2;omega)
   have aP:=kW k i2
   simp(disch:=first|(simp;done)|omega|rfl) [-getElem?_pos,A.rJ,hr,hf,h0,h1,i1,i2,i3,hz,t1,t2,bU.bZ]
   exact⟨k%q,aP,by omega,by simp,q,hq,rfl,by rw[<-hg,Nat.gcd_comm k q,Nat.gcd_rec q k,Nat.gcd_comm]⟩
 ·rintro _ r _ hr ⟨rfl,rfl,h0⟩
  simp(disch:=first|(simp;done)|omega|rfl) [-getElem?_pos,hr,h0]
end
end Go.Mx
