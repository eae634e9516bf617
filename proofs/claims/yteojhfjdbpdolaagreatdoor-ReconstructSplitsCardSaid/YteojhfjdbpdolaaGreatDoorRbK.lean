/-lensletref01-/
import Derived.Test.YteojhfjdbpdolaaGreatDoorRbE
set_option linter.all false
namespace Go.Mx
noncomputable section
open Go Go.Proofs
variable {s:aQ}
set_option maxRecDepth 1000000
def A.b182:=A.q Tryz.f182
def A.k182:=@A.kk 182 25 [.cell 2 (some 2),.cell 3 (some 2)] A.b182 (by kernel_rfl) rfl
def A.b129:=A.q Tryz.f129
def A.k129:=@A.kk 129 96 [.tmp 2] A.b129 (by kernel_rfl) rfl
def Zs7(hk:ah s<s.length)(hp:cJ (s.take (ah s))=true)(hd:cJ (s.drop (ah s+1))=true)(p1:1<=(s.take (ah s)).length)(d1:1<=(s.drop (ah s+1)).length)(hl:s.length<=100000){h:T O}{N:Nat}:Fn A.C 182 [.str s] h N (fun v h' n'=>∃x y,v=.aX [.agg [.bool false,x],.agg [.bool false,y]]/\Dn h' n' x (aH (s.take (ah s)))/\Dn h' n' y (aH (s.drop (ah s+1)))):=by
 intro w
 rw[aR,A.k182 (by simp)]
 have cC:=fun st=>Fk (s:=s) (st:=st) (by omega)
 have c1:¬((ah s:Int)=(s.length:Int)):=by omega
 have c2:¬(ah s=s.length):=by omega
 have c3:(ah s:Int)<=(s.length:Int):=by omega
 have c4:(ah s:Int)+1<=(s.length:Int):=by omega
 have c5:((ah s:Int)+1).toNat=ah s+1:=by omega
 simp[A.b182,cC,c1,c2,c3,c4,c5,aG,aB]
 refine aA (Sm hp p1 (by simp;omega)) ?_
 rintro v1 h1 n1 k1 ⟨x,rfl,hx⟩
 have nx:¬((aH (s.take (ah s)):Nat):Int)<0:=by omega
 simp(disch:=omega) [cC,c1,c2,c3,c4,c5,aG,aB,nx]
 refine aA (Sm hd d1 (by simp;omega)) ?_
 rintro v2 h2 n2 k2 ⟨y,rfl,hy⟩
 have ny:¬((aH (s.drop (ah s+1)):Nat):Int)<0:=by omega
 have fu:=k1.le
 have gY:=k2.le
 have hx:=Dn.ae hx k2
 have r0:=(k2.get N (by omega)).trans (k1.get N (by omega))
 have r1:=(k2.get (N+1) (by omega)).trans (k1.get (N+1) (by omega))
 simp at r0 r1
 have jh:∀u∈([.bool false,.aa]:List V),∀k n,u≠V.int k n:=by intro u hu k n;simp at hu;rcases hu with rfl|rfl<;>simp
 have xO:=(Sl.form hx).one
 have tQ:=(Sl.form hy).one
 unfold V.one at xO tQ
 have Ov:N<n1:=by omega
 have Ow:N<n2:=by omega
 have Ox:N+1<n2:=by omega
 have d4':¬N+1=N:=by omega
 simp[r0,r1,ny,nx,ad,bC,xO,tQ,Ov,Ow,Ox,aO,aF,ct.cv,aE]
 have Av:=Sl.setInt (i:=N) (c1:=[.bool false,x]) (e1:=180) (w1:=true) hx r0 jh rfl
 have sU:=Sl.setInt (i:=N) (c1:=[.bool false,x]) (e1:=180) (w1:=true) hy r0 jh rfl
 have Im:(h2.set N (.cells [.bool false,x] 180 true)).get (N+1)=some (.cells [.bool false,.aa] 180 true):=by rw[T.ag,ak (by omega)];exact r1
 have yP:=Sl.setInt (i:=N+1) (c1:=[.bool false,y]) (e1:=180) (w1:=true) Av Im jh rfl
 have xx:=Sl.setInt (i:=N+1) (c1:=[.bool false,y]) (e1:=180) (w1:=true) sU Im jh rfl
 have k0:=((ab.refl (h:=h) (n:=N)).new (.cells [.bool false,.aa] 180 true)).new (.cells [.bool false,.aa] 180 true)
 exact⟨(((k0.trans k1).trans k2).set (aM N)).set (by omega),x,y,⟨rfl,rfl⟩,yP,xx⟩
def So{s:aQ}(h:iT s=true):cJ s=true/\1<=s.length:=by
 cases s with
 |nil=>cases h
 |cons c s=>
  unfold iT at h
  rw[iE]at h
  exact⟨h.1,by simp⟩
def Sp:ds 1=[1]:=by rw[Ag (by decide),th];rfl
def Sq(h:cJ s=true)(hl:s.length<=100000):(ds (aH s)).length<1000000000000:=by
 have h1:=BA h
 have h2:(10:Nat)^s.length<=1000000000^s.length:=Gc (by decide) _
 have:=Jt (n:=aH s) (k:=s.length) (by omega)
 omega
def Ydz{s:aQ}(hl:s.length<=100000){h:T O}{N:Nat}:Fn A.C 129 [.str s] h N (fun v _ _=>v=.int .i64 (cf s:Nat)):=by
 intro w
 rw[aR,A.k129 (by simp)]
 cases s with
 |nil=>
  have cC:=fun st=>Fk (s:=[]) (st:=st) (by simp)
  have fb:=fun st=>NQ (s:=[]) (st:=st) (by simp)
  simp[A.b129,cC,ah,aB,fb,iT,aE]
  exact⟨ab.refl,rfl⟩
 |cons c t=>
  by_cases h45:cM c=45
  ·have eC:cf (c::t)=ko true (t.take (ah t)) (decide (ah t<t.length)) (t.drop (ah t+1)):=by
    have:c.toNat=45:=by unfold cM at h45;omega
    simp[cf,JP,cK,bn,this]
   rw[eC]
   have cr:(0:Int)<(t.length:Int)+1:=by omega
   have cC:=fun st=>Fk (s:=t) (st:=st) (by simp at hl;omega)
   have fb:=fun st=>NQ (s:=t.take (ah t)) (st:=st) (by simp at hl ⊢;omega)
   have fM:(ah t:Int)<=(t.length:Int):=by have:=EJ t;omega
   have fC:ah t<=t.length:=EJ t
   have gw:(t.take (ah t)).length=ah t:=by simp;omega
   have gZ:(t.drop (ah t+1)).length=t.length-(ah t+1):=by simp
   have dr:=h45
   have fy:=h45
   have pc:=h45
   simp at hl
   generalize hp:t.take (ah t)=p at*
   generalize lO:t.drop (ah t+1)=d at*
   by_cases hA:iT p=true
   ·by_cases hz:p=[48]
    ·have e1:(p==[48])=true:=by simp[hz]
     simp(disch:=first|(simp;done)|omega|(simp only[bA,cA,bo];omega)|rfl) [A.b129,cr,cC,fb,fM,fC,hp,lO,aB,aG,dr,fy,pc,hA,e1,aE]
     exact⟨ab.refl,by simp[ko,gm,hz]⟩
    ·have e1:(p==[48])=false:=by simp[hz]
     by_cases pF:ah t<t.length
     ·have fP:(ah t:Int)<(t.length:Int):=by omega
      have og:=fun st=>NQ (s:=d) (st:=st) (by omega)
      by_cases hD:iT d=true
      ·by_cases h48:d=[48]
       ·have e8:(d==[48])=true:=by simp[h48]
        simp(disch:=first|(simp;done)|omega|(simp only[bA,cA,bo];omega)|rfl) [A.b129,cr,cC,fb,fM,fC,hp,lO,aB,aG,dr,fy,pc,hA,e1,pF,fP,og,hD,e8,aE]
        exact⟨ab.refl,by simp[ko,gm,h48]⟩
       ·have e8:(d==[48])=false:=by simp[h48]
        by_cases zu:d=[49]
        ·have e9:(d==[49])=true:=by simp[zu]
         simp(disch:=first|(simp;done)|omega|(simp only[bA,cA,bo];omega)|rfl) [A.b129,cr,cC,fb,fM,fC,hp,lO,aB,aG,dr,fy,pc,hA,e1,pF,fP,og,hD,e8,e9,aE]
         exact⟨ab.refl,by simp[ko,gm,zu]⟩
        ·have e9:(d==[49])=false:=by simp[zu]
         have dH:gm true p true d=true:=by simp[gm,hA,hD,h48,zu,hz]
         by_cases b6:600<p.length
         ·have b6':(600:Int)<(ah t:Int):=by omega
          simp(disch:=first|(simp;done)|omega|(simp only[bA,cA,bo];omega)|rfl) [A.b129,cr,cC,fb,fM,fC,hp,lO,aB,aG,dr,fy,pc,hA,e1,pF,fP,og,hD,e8,e9,b6',aE]
          exact⟨ab.refl,by simp[ko,dH,b6]⟩
         ·have b6':¬(600:Int)<(ah t:Int):=by omega
          by_cases b7:600<d.length
          ·have b7':(600:Int)<(t.length:Int)-(ah t:Int)-1:=by omega
           simp(disch:=first|(simp;done)|omega|(simp only[bA,cA,bo];omega)|rfl) [A.b129,cr,cC,fb,fM,fC,hp,lO,aB,aG,dr,fy,pc,hA,e1,pF,fP,og,hD,e8,e9,b6',b7',aE]
           exact⟨ab.refl,by simp[ko,dH,b6,b7]⟩
          ·have b7':¬(600:Int)<(t.length:Int)-(ah t:Int)-1:=by omega
           obtain⟨pa,pb⟩:=So hA
           obtain⟨da,db⟩:=So hD
           simp(disch:=first|(simp;done)|omega|(simp only[bA,cA,bo];omega)|rfl) [A.b129,cr,cC,fb,fM,fC,hp,lO,aB,aG,dr,fy,pc,hA,e1,pF,fP,og,hD,e8,e9,b6',b7']
           refine aA (Zs7 pF (by rw[hp];exact pa) (by rw[lO];exact da) (by rw[hp];exact pb) (by rw[lO];exact db) (by omega)) ?_
           rintro v1 h1 n1 k1 ⟨x,y,rfl,hx,hy⟩
           rw[hp]at hx
           rw[lO]at hy
           have xO:=(Sl.form hx).one
           have tQ:=(Sl.form hy).one
           unfold V.one at xO tQ
           have kx:=((((ab.refl (h:=h1) (n:=n1)).new (.cells [.bool false,.aa] 180 true)).new (.cells [.bool false,.aa] 180 true)).set (i:=n1) (o:=.cells [.bool false,x] 180 true) (aM n1)).set (i:=n1+1) (o:=.cells [.bool false,y] 180 true) (by omega)
           simp[ad,bC,xO,tQ]
           refine aA (Si (hx.ae kx) (hy.ae kx) (Sq pa (by omega)) (Sq da (by omega))) ?_
           rintro z h2 n2 k2 dT
           have kk:=(k1.trans kx).trans k2
           have lz:=dT.len
           rw[fZ]at lz
           have ij:¬n1<N:=by have:=k1.le;omega
           have mq:¬n1+1<N:=by have:=k1.le;omega
           generalize hG:Nat.gcd (aH p) (aH d)=G at*
           by_cases g1:G=1
           ·subst g1
            rw[Sp]at lz
            obtain⟨b1,b2,b3,b4,b5,z1,z2,z3,z4⟩:=Sl.at (show Sl h2 n2 z (dI [1]) from Sp▸dT) (j:=0) (x:=.int .i64 1) rfl
            simp at z4
            simp[lz,z1,z3,z4,aG,aE,ij,mq]
            exact⟨kk,by simp[ko,dH,b6,b7,hG]⟩
           ·have tF:ko true p true d=1:=by simp[ko,dH,b6,b7,hG,g1]
            by_cases g2:(ds G).length=1
            ·obtain⟨gx,Oy⟩:=bk (l:=ds G) (k:=0) (by omega)
             obtain⟨b1,b2,b3,b4,b5,z1,z2,z3,z4⟩:=Sl.at (show Sl h2 n2 z (dI (ds G)) from dT) (fS Oy)
             simp at z4
             have gne:¬gx=1:=fun hc=>g1 (by
              have hv:=gk G
              rw[NV Oy,yC (by omega)]at hv
              simp[vI,pI]at hv
              omega)
             simp[lz,g2,z1,z3,z4,gne,aG,aE,ij,mq,tF]
             exact kk
            ·have pM:¬((ds G).length:Int)=1:=by omega
             simp[lz,g2,pM,aG,aE,ij,mq,tF]
             exact kk
      ·have hD:iT d=false:=by simpa using hD
       simp(disch:=first|(simp;done)|omega|(simp only[bA,cA,bo];omega)|rfl) [A.b129,cr,cC,fb,fM,fC,hp,lO,aB,aG,dr,fy,pc,hA,e1,pF,fP,og,hD,aE]
       exact⟨ab.refl,by simp[ko,gm,hD]⟩
     ·have zad:ah t=t.length:=by omega
      have fP:¬(ah t:Int)<(t.length:Int):=by omega
      have dH:gm true p false d=true:=by simp[gm,hA,hz]
      have dl0:¬600<d.length:=by omega
      have b7':¬(600:Int)<(t.length:Int)-(ah t:Int)-1:=by omega
      by_cases b6:600<p.length
      ·have b6':(600:Int)<(ah t:Int):=by omega
       simp(disch:=first|(simp;done)|omega|(simp only[bA,cA,bo];omega)|rfl) [A.b129,cr,cC,fb,fM,fC,hp,lO,aB,aG,dr,fy,pc,hA,e1,pF,fP,b6',aE]
       exact⟨ab.refl,by simp[ko,dH,b6]⟩
      ·have b6':¬(600:Int)<(ah t:Int):=by omega
       simp(disch:=first|(simp;done)|omega|(simp only[bA,cA,bo];omega)|rfl) [A.b129,cr,cC,fb,fM,fC,hp,lO,aB,aG,dr,fy,pc,hA,e1,pF,fP,b6',b7',aE]
       exact⟨ab.refl,by simp[ko,dH,b6,dl0]⟩
   ·have hA:iT p=false:=by simpa using hA
    simp(disch:=first|(simp;done)|omega|(simp only[bA,cA,bo];omega)|rfl) [A.b129,cr,cC,fb,fM,fC,hp,lO,aB,aG,dr,fy,pc,hA,aE]
    exact⟨ab.refl,by simp[ko,gm,hA]⟩
  ·have FO:cK (c::t)=false:=by
    simp only[cK,decide_eq_false_iff_not];unfold cM at h45;omega
   obtain⟨t,ht⟩:∃t',t'=c::t:=⟨c::t,rfl⟩
   rw[<-ht]at hl FO ⊢
   have fy:t[0]?=some c:=by rw[ht];rfl
   have dr:t.head?=some c:=by rw[ht];rfl
   have hlen:0<t.length:=by rw[ht];simp
   have pc:t≠[]:=by rw[ht];simp
   have fk:(0:Int)<(t.length:Int):=by omega
   have cr:0<t.length:=hlen
   clear ht
   have eC:cf t=ko false (t.take (ah t)) (decide (ah t<t.length)) (t.drop (ah t+1)):=by
    simp[cf,JP,bn,FO]
   rw[eC]
   have cC:=fun st=>Fk (s:=t) (st:=st) (by omega)
   have fb:=fun st=>NQ (s:=t.take (ah t)) (st:=st) (by simp;omega)
   have fM:(ah t:Int)<=(t.length:Int):=by have:=EJ t;omega
   have fC:ah t<=t.length:=EJ t
   have gw:(t.take (ah t)).length=ah t:=by simp;omega
   have gZ:(t.drop (ah t+1)).length=t.length-(ah t+1):=by simp
   generalize hp:t.take (ah t)=p at*
   generalize lO:t.drop (ah t+1)=d at*
   by_cases hA:iT p=true
   ·have e1:True:=trivial
    by_cases pF:ah t<t.length
    ·have fP:(ah t:Int)<(t.length:Int):=by omega
     have og:=fun st=>NQ (s:=d) (st:=st) (by omega)
     by_cases hD:iT d=true
     ·by_cases h48:d=[48]
      ·have e8:(d==[48])=true:=by simp[h48]
       simp(disch:=first|(simp;done)|omega|(simp only[bA,cA,bo];omega)|rfl) [-getElem?_pos,A.b129,cr,cC,fb,fM,fC,hp,lO,aB,aG,dr,fy,pc,h45,fk,hA,e1,pF,fP,og,hD,e8,aE]
       exact⟨ab.refl,by simp[ko,gm,h48]⟩
      ·have e8:(d==[48])=false:=by simp[h48]
       by_cases zu:d=[49]
       ·have e9:(d==[49])=true:=by simp[zu]
        simp(disch:=first|(simp;done)|omega|(simp only[bA,cA,bo];omega)|rfl) [-getElem?_pos,A.b129,cr,cC,fb,fM,fC,hp,lO,aB,aG,dr,fy,pc,h45,fk,hA,e1,pF,fP,og,hD,e8,e9,aE]
        exact⟨ab.refl,by simp[ko,gm,zu]⟩
       ·have e9:(d==[49])=false:=by simp[zu]
        have dH:gm false p true d=true:=by simp[gm,hA,hD,h48,zu]
        by_cases b6:600<p.length
        ·have b6':(600:Int)<(ah t:Int):=by omega
         simp(disch:=first|(simp;done)|omega|(simp only[bA,cA,bo];omega)|rfl) [-getElem?_pos,A.b129,cr,cC,fb,fM,fC,hp,lO,aB,aG,dr,fy,pc,h45,fk,hA,e1,pF,fP,og,hD,e8,e9,b6',aE]
         exact⟨ab.refl,by simp[ko,dH,b6]⟩
        ·have b6':¬(600:Int)<(ah t:Int):=by omega
         by_cases b7:600<d.length
         ·have b7':(600:Int)<(t.length:Int)-(ah t:Int)-1:=by omega
          simp(disch:=first|(simp;done)|omega|(simp only[bA,cA,bo];omega)|rfl) [-getElem?_pos,A.b129,cr,cC,fb,fM,fC,hp,lO,aB,aG,dr,fy,pc,h45,fk,hA,e1,pF,fP,og,hD,e8,e9,b6',b7',aE]
          exact⟨ab.refl,by simp[ko,dH,b6,b7]⟩
         ·have b7':¬(600:Int)<(t.length:Int)-(ah t:Int)-1:=by omega
          obtain⟨pa,pb⟩:=So hA
          obtain⟨da,db⟩:=So hD
          simp(disch:=first|(simp;done)|omega|(simp only[bA,cA,bo];omega)|rfl) [-getElem?_pos,A.b129,cr,cC,fb,fM,fC,hp,lO,aB,aG,dr,fy,pc,h45,fk,hA,e1,pF,fP,og,hD,e8,e9,b6',b7']
          refine aA (Zs7 pF (by rw[hp];exact pa) (by rw[lO];exact da) (by rw[hp];exact pb) (by rw[lO];exact db) (by omega)) ?_
          rintro v1 h1 n1 k1 ⟨x,y,rfl,hx,hy⟩
          rw[hp]at hx
          rw[lO]at hy
          have xO:=(Sl.form hx).one
          have tQ:=(Sl.form hy).one
          unfold V.one at xO tQ
          have kx:=((((ab.refl (h:=h1) (n:=n1)).new (.cells [.bool false,.aa] 180 true)).new (.cells [.bool false,.aa] 180 true)).set (i:=n1) (o:=.cells [.bool false,x] 180 true) (aM n1)).set (i:=n1+1) (o:=.cells [.bool false,y] 180 true) (by omega)
          simp[ad,bC,xO,tQ]
          refine aA (Si (hx.ae kx) (hy.ae kx) (Sq pa (by omega)) (Sq da (by omega))) ?_
          rintro z h2 n2 k2 dT
          have kk:=(k1.trans kx).trans k2
          have lz:=dT.len
          rw[fZ]at lz
          have ij:¬n1<N:=by have:=k1.le;omega
          have mq:¬n1+1<N:=by have:=k1.le;omega
          generalize hG:Nat.gcd (aH p) (aH d)=G at*
          by_cases g1:G=1
          ·subst g1
           rw[Sp]at lz
           obtain⟨b1,b2,b3,b4,b5,z1,z2,z3,z4⟩:=Sl.at (show Sl h2 n2 z (dI [1]) from Sp▸dT) (j:=0) (x:=.int .i64 1) rfl
           simp at z4
           simp[lz,z1,z3,z4,aG,aE,ij,mq]
           exact⟨kk,by simp[ko,dH,b6,b7,hG]⟩
          ·have tF:ko false p true d=1:=by simp[ko,dH,b6,b7,hG,g1]
           by_cases g2:(ds G).length=1
           ·obtain⟨gx,Oy⟩:=bk (l:=ds G) (k:=0) (by omega)
            obtain⟨b1,b2,b3,b4,b5,z1,z2,z3,z4⟩:=Sl.at (show Sl h2 n2 z (dI (ds G)) from dT) (fS Oy)
            simp at z4
            have gne:¬gx=1:=fun hc=>g1 (by
             have hv:=gk G
             rw[NV Oy,yC (by omega)]at hv
             simp[vI,pI]at hv
             omega)
            simp[lz,g2,z1,z3,z4,gne,aG,aE,ij,mq,tF]
            exact kk
           ·have pM:¬((ds G).length:Int)=1:=by omega
            simp[lz,g2,pM,aG,aE,ij,mq,tF]
            exact kk
     ·have hD:iT d=false:=by simpa using hD
      simp(disch:=first|(simp;done)|omega|(simp only[bA,cA,bo];omega)|rfl) [-getElem?_pos,A.b129,cr,cC,fb,fM,fC,hp,lO,aB,aG,dr,fy,pc,h45,fk,hA,e1,pF,fP,og,hD,aE]
      exact⟨ab.refl,by simp[ko,gm,hD]⟩
    ·have zad:ah t=t.length:=by omega
     have fP:¬(ah t:Int)<(t.length:Int):=by omega
     have dH:gm false p false d=true:=by simp[gm,hA]
     have dl0:¬600<d.length:=by omega
     have b7':¬(600:Int)<(t.length:Int)-(ah t:Int)-1:=by omega
     by_cases b6:600<p.length
     ·have b6':(600:Int)<(ah t:Int):=by omega
      simp(disch:=first|(simp;done)|omega|(simp only[bA,cA,bo];omega)|rfl) [-getElem?_pos,A.b129,cr,cC,fb,fM,fC,hp,lO,aB,aG,dr,fy,pc,h45,fk,hA,e1,pF,fP,b6',aE]
      exact⟨ab.refl,by simp[ko,dH,b6]⟩
     ·have b6':¬(600:Int)<(ah t:Int):=by omega
      simp(disch:=first|(simp;done)|omega|(simp only[bA,cA,bo];omega)|rfl) [-getElem?_pos,A.b129,cr,cC,fb,fM,fC,hp,lO,aB,aG,dr,fy,pc,h45,fk,hA,e1,pF,fP,b6',b7',aE]
      exact⟨ab.refl,by simp[ko,dH,b6,dl0]⟩
   ·have hA:iT p=false:=by simpa using hA
    simp(disch:=first|(simp;done)|omega|(simp only[bA,cA,bo];omega)|rfl) [-getElem?_pos,A.b129,cr,cC,fb,fM,fC,hp,lO,aB,aG,dr,fy,pc,h45,fk,hA,aE]
    exact⟨ab.refl,by simp[ko,gm,hA]⟩
variable {N:Nat} {a b:Int} {h:T O} {x y:V}
def A.b189:=A.q Tryz.f189
def A.k189:=@A.kk 189 57 [.tmp 4] A.b189 (by kernel_rfl) rfl
def Oz(hb:0<b):b.natAbs/Nat.gcd a.natAbs b.natAbs=(Rat.divInt a b).den:=by
 have h:((Rat.divInt a b).den:Int)=((b.natAbs/Nat.gcd a.natAbs b.natAbs:Nat):Int):=by
  rw[Rat.den_divInt,ak (by omega),Int.gcd_comm]
  rfl
 exact(Int.ofNat_inj.1 h).symm
def Io(hb:0<b):(if decide (a<0)=true then -((a.natAbs/Nat.gcd a.natAbs b.natAbs:Nat):Int) else ((a.natAbs/Nat.gcd a.natAbs b.natAbs:Nat):Int))=(Rat.divInt a b).num:=by
 rw[Rat.num_divInt,Int.sign_eq_one_of_pos hb,Int.one_mul,Int.gcd_comm]
 have hd:((Int.gcd a b:Nat):Int)∣a:=Int.gcd_dvd_left ..
 have he:Nat.gcd a.natAbs b.natAbs=Int.gcd a b:=rfl
 rw[he,Int.natCast_ediv]
 by_cases ha:a<0
 ·have h1:(a.natAbs:Int)= -a:=by omega
  simp only[ha,decide_true,if_true,h1]
  rw[Int.neg_ediv_of_dvd hd,Int.neg_neg]
 ·have h1:(a.natAbs:Int)=a:=by omega
  simp[ha,h1]
def Ygs{z:Int}:(aP z).length<=9*(ds z.natAbs).length+2:=by
 have:=OA (n:=z.natAbs)
 unfold aP
 split<;>simp<;>omega
def Ymy{m e:Nat}(h0:0<m)(he:m%1000000000=e):m=1↔(ds m).length=1/\e=1:=by
 constructor
 ·rintro rfl
  exact⟨by have:=Ymx (r:=1) (by omega);rw[<-this];decide,by omega⟩
 ·rintro⟨h1,h2⟩
  have h3:=vC (fV m)
  rw[gk,h1,Q5,Nat.pow_one]at h3
  omega
def Zt9(hx:Rg h N x a)(hy:Rg h N y b)(hb:0<b)(l3:(ds a.natAbs).length<100000000000)(l4:(ds b.natAbs).length<100000000000):Fn A.C 189 [x,y] h N (fun u _ _=>u=.str (aS (Rat.divInt a b))):=by
 intro w
 obtain⟨u,rfl,lF⟩:=hx
 obtain⟨v,rfl,mj⟩:=hy
 have o1:=Sl.form lF |>.one
 have o2:=Sl.form lF |>.cells
 have o3:=Sl.form mj |>.one
 have o4:=Sl.form mj |>.cells
 unfold V.one at o1 o3
 unfold V.cells at o2 o4
 have l1:(ds a.natAbs).length<1000000000000:=by omega
 have l2:(ds b.natAbs).length<1000000000000:=by omega
 have sK:¬b<0:=by omega
 rw[show decide (b<0)=false by simp[sK]]
 have kB:=(((ab.refl (h:=h) (n:=N)).new (.cells [.bool (decide (a<0)),u] 180 true)).new (.cells [.bool false,v] 180 true))
 have hu:=Sl.ae lF kB
 have hv:=Sl.ae mj kB
 rw[aR,A.k189 (by simp)]
 simp[A.b189,o1,o2,o3,o4,ad,aO,aF,aG,sK]
 generalize hB:(h.set N (.cells [.bool (decide (a<0)),u] 180 true)).set (N+1) (.cells [.bool false,v] 180 true)=HB at*
 have gN:HB.get N=some (.cells [.bool (decide (a<0)),u] 180 true):=by rw[<-hB];simp
 have gM:HB.get (N+1)=some (.cells [.bool false,v] 180 true):=by rw[<-hB];simp
 refine aA (Si hu hv l1 l2) ?_
 rintro v1 h1 n1 k1 q1
 have Dt:=(k1.get N (by omega)).trans gN
 have Du:=(k1.get (N+1) (by omega)).trans gM
 have sS:0<Nat.gcd a.natAbs b.natAbs:=Qi _ (by omega)
 have lg:(ds (Nat.gcd a.natAbs b.natAbs)).length<1000000000000:=qP (uC (Nat.gcd_le_right _ (by omega))) l2
 have sJ:=k1.le
 simp[Dt,Du,o1,o2,o3,o4,ad,aO,aF]
 refine aA (Om (hu.ae k1) q1 sS l1 lg) ?_
 rintro _ h2 n2 k2 ⟨q,r1,rfl,q2, -⟩
 have Ip:=(k2.get (N+1) (by omega)).trans Du
 have kX:=k2.le
 simp[Ip,o1,o2,o3,o4,ad,aO,aF]
 refine aA (Om ((hv.ae k1).ae k2) (q1.ae k2) sS l2 lg) ?_
 rintro _ h3 n3 k3 ⟨d,r2,rfl,q3, -⟩
 have gN3:=(k3.get N (by omega)).trans ((k2.get N (by omega)).trans Dt)
 have B3:=k3.le
 rw[Oz hb]at q3
 have lq:(ds (a.natAbs/Nat.gcd a.natAbs b.natAbs)).length<100000000000:=qP (uC (vk _ _)) l3
 have AV:(ds (Rat.divInt a b).den).length<100000000000:=by rw[<-Oz hb];exact qP (uC (vk _ _)) l4
 simp[gN3,o1,o2,o3,o4,ad,aO,aF]
 refine aA (xD (n:=a.natAbs/Nat.gcd a.natAbs b.natAbs) (q2.ae k3) (fV _) (gk _) (by omega)) ?_
 rintro v4 h4 n4 k4 q4
 have Ve:=k4.le
 rw[Io hb]at q4
 simp[]
 refine aA (Ka q4 (by rw[<-Io hb];split<;>(first|rw[xY,dR]|rw[dR])<;>exact lq)) ?_
 rintro _ h5 n5 k5 rfl
 have Vu:=k5.le
 obtain⟨m,hm⟩:∃m,(Rat.divInt a b).den=m:=⟨_,rfl⟩
 have ix:0<m:=by rw[<-hm];exact Rat.den_pos _
 rw[hm]at q3 AV
 have cC:=Ygs (z:=(Rat.divInt a b).num)
 have Iq:(ds (Rat.divInt a b).num.natAbs).length<100000000000:=by rw[<-Io hb];split<;>(first|rw[xY,dR]|rw[dR])<;>exact lq
 have lL:aS (Rat.divInt a b)=if m=1 then aP (Rat.divInt a b).num else aP (Rat.divInt a b).num++47::ar m:=by unfold aS;rw[hm]
 rw[lL]
 generalize aP (Rat.divInt a b).num=s at*
 have Dv:Dn h5 n5 d m:=(q3.ae k4).ae k5
 have ld:=Sl.len Dv
 rw[fZ]at ld
 have qC:(ds m).length≠0:=fun hc=>(by omega:m≠0) (CI.1 (qE hc))
 have hg:=Q3 (i:=0) (n:=m) (by omega)
 rw[D8,Nat.div_one]at hg
 obtain⟨e,he⟩:∃e,m%1000000000=e:=⟨_,rfl⟩
 rw[he]at hg
 have tr:m=1↔(ds m).length=1/\e=1:=Ymy ix he
 obtain⟨i,o,c,te,rw_,p1,p2,p3,p4⟩:=Sl.at Dv (fS hg)
 rw[kv]at p4
 obtain⟨L,hL⟩:∃L,(ds m).length=L:=⟨_,rfl⟩
 rw[hL]at ld tr
 have gZ:=OA (n:=m)
 rw[hL]at gZ AV
 have dq:IntKind.max .i64=9223372036854775807:=rfl
 have b1:¬(9223372036854775807:Int)<(s.length:Int)+1:=by omega
 have b2:¬(9223372036854775807:Int)<(s.length:Int)+1+((ar m).length:Int):=by omega
 have yc:aP (m:Int)=ar m:=by unfold aP;rw[ak (by omega),dR]
 have wk:(ds m).length<1152921504606846976:=by omega
 have K5:ab h N h5 n5:=((((kB.trans k1).trans k2).trans k3).trans k4).trans k5
 by_cases mC:m=1
 ·obtain⟨rfl,rfl⟩:=tr.1 mC
  rw[av mC]
  clear cC Iq gZ b1 b2 wk AV
  simp[ld,p1,p3,p4,ad,aE,aG]
  exact K5
 ·rw[ak mC]
  by_cases Fl:L=1
  ·have M1:¬e=1:=fun hc=>mC (tr.2 ⟨Fl,hc⟩)
   have uP:¬(e:Int)=1:=by omega
   subst Fl
   clear cC Iq gZ
   simp[ld,p1,p3,p4,ad,aE,aG,M1,uP,gL,dq,b1]
   refine aA (xD (b:=false) (n:=m) Dv (fV _) (gk _) wk) ?_
   rintro v6 h6 n6 k6 q6
   have q7:Rg h6 n6 v6 (m:Int):=by simpa using q6
   simp[]
   refine aA (Ka q7 (by rw[dR,hL];exact AV)) ?_
   rintro _ h7 n7 k7 rfl
   rw[yc]
   simp[gL,dq,b2,aE]
   exact(K5.trans k6).trans k7
  ·have hL2:¬(L:Int)=1:=by omega
   clear cC Iq gZ
   simp[ld,Fl,hL2,ad,aE,aG,gL,dq,b1]
   refine aA (xD (b:=false) (n:=m) Dv (fV _) (gk _) wk) ?_
   rintro v6 h6 n6 k6 q6
   have q7:Rg h6 n6 v6 (m:Int):=by simpa using q6
   simp[]
   refine aA (Ka q7 (by rw[dR,hL];exact AV)) ?_
   rintro _ h7 n7 k7 rfl
   rw[yc]
   simp[gL,dq,b2,aE]
   exact(K5.trans k6).trans k7
def Zua{P Q:Int}(hx:Rg h N x P)(hy:Rg h N y Q)(Dm:Q<0)(l3:(ds P.natAbs).length<100000000000)(l4:(ds Q.natAbs).length<100000000000):Fn A.C 189 [x,y] h N (fun u _ _=>u=.str (aS (Rat.divInt P Q))):=by
 intro w
 obtain⟨u0,rfl,lF⟩:=hx
 obtain⟨v0,rfl,mj⟩:=hy
 have o1:=Sl.form lF |>.one
 have o2:=Sl.form lF |>.cells
 have o3:=Sl.form mj |>.one
 have o4:=Sl.form mj |>.cells
 unfold V.one at o1 o3
 unfold V.cells at o2 o4
 have mH:Rg h N (.agg [.bool (decide (P<0)),u0]) P:=⟨u0,rfl,lF⟩
 have xH:Rg h N (.agg [.bool true,v0]) Q:=⟨v0,by simp[Dm],mj⟩
 rw[show decide (Q<0)=true by simp[Dm]]
 have kA:=(((ab.refl (h:=h) (n:=N)).new (.cells [.bool (decide (P<0)),u0] 180 true)).new (.cells [.bool true,v0] 180 true))
 rw[aR,A.k189 (by simp)]
 simp[A.b189,o1,o2,o3,o4,ad,aO,aF,aG]
 generalize hA:(h.set N (.cells [.bool (decide (P<0)),u0] 180 true)).set (N+1) (.cells [.bool true,v0] 180 true)=HA at*
 have gN0:HA.get N=some (.cells [.bool (decide (P<0)),u0] 180 true):=by rw[<-hA];simp
 have gM0:HA.get (N+1)=some (.cells [.bool true,v0] 180 true):=by rw[<-hA];simp
 refine aA (Zyi (mH.ae kA) (by omega)) ?_
 rintro _ m1 t1 j1 q1
 obtain⟨a,ha⟩:∃a,a= -P:=⟨_,rfl⟩
 rw[<-ha]at q1
 obtain⟨u,rfl,Ah⟩:=q1
 have i1:=j1.le
 have Dt:=(j1.get N (by omega)).trans gN0
 have Du:=(j1.get (N+1) (by omega)).trans gM0
 simp[Du,Dt,o1,o2,o3,o4,ad,aO,aF]
 refine aA (Zyi ((xH.ae kA).ae j1) (by omega)) ?_
 rintro _ m2 t2 j2 q2
 obtain⟨b,lG⟩:∃b,b= -Q:=⟨_,rfl⟩
 rw[<-lG]at q2
 have hb:0<b:=by omega
 obtain⟨v,rfl,iR⟩:=q2
 rw[show decide (b<0)=false by simp;omega]
 have gp:Rat.divInt P Q=Rat.divInt a b:=by rw[ha,lG];exact(Rat.neg_divInt_neg P Q).symm
 rw[gp]
 have n1:=Ysy (b:=decide (P<0)) (Sl.form lF)
 have n2:=Ysy (b:=true) (Sl.form mj)
 have i2:=j2.le
 have IF:=(j2.get N (by omega)).trans Dt
 have Ip:=(j2.get (N+1) (by omega)).trans Du
 have s1:=Sl.form Ah |>.one
 have s2:=Sl.form Ah |>.cells
 have s3:=Sl.form iR |>.one
 have s4:=Sl.form iR |>.cells
 unfold V.one at s1 s3
 unfold V.cells at s2 s4
 have g1:N+1<t1:=by omega
 have g2:N+1<t2:=by omega
 have g3:N<t2:=by omega
 simp[IF,Ip,s1,s2,s3,s4,ad,bC,aO,aF,ct.cv,g1,g2,g3]
 have gM3:(m2.set N (.cells [.bool (decide (a<0)),u] 180 true)).get (N+1)=some (.cells [.bool true,v0] 180 true):=by rw[T.ag,ak (by omega)];exact Ip
 have kB:=((((kA.trans j1).trans j2).set (i:=N) (o:=.cells [.bool (decide (a<0)),u] 180 true) (by omega))).set (i:=N+1) (o:=.cells [.bool false,v] 180 true) (by omega)
 have hu:=Sl.setInt (Sl.setInt (Ah.ae j2) IF n1 (c1:=[.bool (decide (a<0)),u]) (e1:=180) (w1:=true) rfl) gM3 n2 (c1:=[.bool false,v]) (e1:=180) (w1:=true) rfl
 have hv:=Sl.setInt (Sl.setInt iR IF n1 (c1:=[.bool (decide (a<0)),u]) (e1:=180) (w1:=true) rfl) gM3 n2 (c1:=[.bool false,v]) (e1:=180) (w1:=true) rfl
 generalize hB:(m2.set N (.cells [.bool (decide (a<0)),u] 180 true)).set (N+1) (.cells [.bool false,v] 180 true)=HB at*
 have gN:HB.get N=some (.cells [.bool (decide (a<0)),u] 180 true):=by rw[<-hB];simp
 have gM:HB.get (N+1)=some (.cells [.bool false,v] 180 true):=by rw[<-hB];simp
 have ea:a.natAbs=P.natAbs:=by omega
 have eb:b.natAbs=Q.natAbs:=by omega
 rw[<-ea]at l3
 rw[<-eb]at l4
 have l1:(ds a.natAbs).length<1000000000000:=by omega
 have l2:(ds b.natAbs).length<1000000000000:=by omega
 clear o1 o2 o3 o4
 have o1:=s1
 have o2:=s2
 have o3:=s3
 have o4:=s4
 clear s1 s2 s3 s4 gM3 IF Ip Dt Du gN0 gM0 n1 n2 hA gp
 refine aA (Si hu hv l1 l2) ?_
 rintro v1 h1 n1 k1 q1
 have Dt:=(k1.get N (by omega)).trans gN
 have Du:=(k1.get (N+1) (by omega)).trans gM
 have sS:0<Nat.gcd a.natAbs b.natAbs:=Qi _ (by omega)
 have lg:(ds (Nat.gcd a.natAbs b.natAbs)).length<1000000000000:=qP (uC (Nat.gcd_le_right _ (by omega))) l2
 have sJ:=k1.le
 simp[Dt,Du,o1,o2,o3,o4,ad,aO,aF]
 refine aA (Om (hu.ae k1) q1 sS l1 lg) ?_
 rintro _ h2 n2 k2 ⟨q,r1,rfl,q2, -⟩
 have Ip:=(k2.get (N+1) (by omega)).trans Du
 have kX:=k2.le
 simp[Ip,o1,o2,o3,o4,ad,aO,aF]
 refine aA (Om ((hv.ae k1).ae k2) (q1.ae k2) sS l2 lg) ?_
 rintro _ h3 n3 k3 ⟨d,r2,rfl,q3, -⟩
 have gN3:=(k3.get N (by omega)).trans ((k2.get N (by omega)).trans Dt)
 have B3:=k3.le
 rw[Oz hb]at q3
 have lq:(ds (a.natAbs/Nat.gcd a.natAbs b.natAbs)).length<100000000000:=qP (uC (vk _ _)) l3
 have AV:(ds (Rat.divInt a b).den).length<100000000000:=by rw[<-Oz hb];exact qP (uC (vk _ _)) l4
 simp[gN3,o1,o2,o3,o4,ad,aO,aF]
 refine aA (xD (n:=a.natAbs/Nat.gcd a.natAbs b.natAbs) (q2.ae k3) (fV _) (gk _) (by omega)) ?_
 rintro v4 h4 n4 k4 q4
 have Ve:=k4.le
 rw[Io hb]at q4
 simp[]
 refine aA (Ka q4 (by rw[<-Io hb];split<;>(first|rw[xY,dR]|rw[dR])<;>exact lq)) ?_
 rintro _ h5 n5 k5 rfl
 have Vu:=k5.le
 obtain⟨m,hm⟩:∃m,(Rat.divInt a b).den=m:=⟨_,rfl⟩
 have ix:0<m:=by rw[<-hm];exact Rat.den_pos _
 rw[hm]at q3 AV
 have cC:=Ygs (z:=(Rat.divInt a b).num)
 have Iq:(ds (Rat.divInt a b).num.natAbs).length<100000000000:=by rw[<-Io hb];split<;>(first|rw[xY,dR]|rw[dR])<;>exact lq
 have lL:aS (Rat.divInt a b)=if m=1 then aP (Rat.divInt a b).num else aP (Rat.divInt a b).num++47::ar m:=by unfold aS;rw[hm]
 rw[lL]
 generalize aP (Rat.divInt a b).num=s at*
 have Dv:Dn h5 n5 d m:=(q3.ae k4).ae k5
 have ld:=Sl.len Dv
 rw[fZ]at ld
 have qC:(ds m).length≠0:=fun hc=>(by omega:m≠0) (CI.1 (qE hc))
 have hg:=Q3 (i:=0) (n:=m) (by omega)
 rw[D8,Nat.div_one]at hg
 obtain⟨e,he⟩:∃e,m%1000000000=e:=⟨_,rfl⟩
 rw[he]at hg
 have tr:m=1↔(ds m).length=1/\e=1:=Ymy ix he
 obtain⟨i,o,c,te,rw_,p1,p2,p3,p4⟩:=Sl.at Dv (fS hg)
 rw[kv]at p4
 obtain⟨L,hL⟩:∃L,(ds m).length=L:=⟨_,rfl⟩
 rw[hL]at ld tr
 have gZ:=OA (n:=m)
 rw[hL]at gZ AV
 have dq:IntKind.max .i64=9223372036854775807:=rfl
 have b1:¬(9223372036854775807:Int)<(s.length:Int)+1:=by omega
 have b2:¬(9223372036854775807:Int)<(s.length:Int)+1+((ar m).length:Int):=by omega
 have yc:aP (m:Int)=ar m:=by unfold aP;rw[ak (by omega),dR]
 have wk:(ds m).length<1152921504606846976:=by omega
 have K5:ab h N h5 n5:=((((kB.trans k1).trans k2).trans k3).trans k4).trans k5
 by_cases mC:m=1
 ·obtain⟨rfl,rfl⟩:=tr.1 mC
  rw[av mC]
  clear cC Iq gZ b1 b2 wk AV
  simp[ld,p1,p3,p4,ad,aE,aG]
  exact K5
 ·rw[ak mC]
  by_cases Fl:L=1
  ·have M1:¬e=1:=fun hc=>mC (tr.2 ⟨Fl,hc⟩)
   have uP:¬(e:Int)=1:=by omega
   subst Fl
   clear cC Iq gZ
   simp[ld,p1,p3,p4,ad,aE,aG,M1,uP,gL,dq,b1]
   refine aA (xD (b:=false) (n:=m) Dv (fV _) (gk _) wk) ?_
   rintro v6 h6 n6 k6 q6
   have q7:Rg h6 n6 v6 (m:Int):=by simpa using q6
   simp[]
   refine aA (Ka q7 (by rw[dR,hL];exact AV)) ?_
   rintro _ h7 n7 k7 rfl
   rw[yc]
   simp[gL,dq,b2,aE]
   exact(K5.trans k6).trans k7
  ·have hL2:¬(L:Int)=1:=by omega
   clear cC Iq gZ
   simp[ld,Fl,hL2,ad,aE,aG,gL,dq,b1]
   refine aA (xD (b:=false) (n:=m) Dv (fV _) (gk _) wk) ?_
   rintro v6 h6 n6 k6 q6
   have q7:Rg h6 n6 v6 (m:Int):=by simpa using q6
   simp[]
   refine aA (Ka q7 (by rw[dR,hL];exact AV)) ?_
   rintro _ h7 n7 k7 rfl
   rw[yc]
   simp[gL,dq,b2,aE]
   exact(K5.trans k6).trans k7
def Zjy(hx:Rg h N x a)(hy:Rg h N y b)(hb:b≠0)(l3:(ds a.natAbs).length<100000000000)(l4:(ds b.natAbs).length<100000000000):Fn A.C 189 [x,y] h N (fun u _ _=>u=.str (aS (Rat.divInt a b))):=by
 rcases Int.lt_or_gt_of_ne hb with hb|hb
 ·exact Zua hx hy hb l3 l4
 ·exact Zt9 hx hy hb l3 l4
def A.OB:=A.q Tryz.f225
def A.se:=A.ql A.OB 0 []
def A.b225:=(fun x0=>A.qb A.OB [x0]) A.se
def A.k225:=@A.kk 225 12 [.tmp 4] A.b225 (by kernel_rfl) rfl
def Yfx{a b:Nat}{st:St}(ha:a<9223372036854775808)(hb:b<9223372036854775808):A.C.call (.func 225 [] []) [.int .i64 a,.int .i64 b] st=some (.int .i64 (Nat.gcd a b:Nat),st):=by
 apply Call.eq
 rw[aR,A.k225 (by simp)]
 simp[A.b225]
 refine bL [(0,1),(5,10)] (fun e r s1=>s1=⟨st.h,st.n,[]⟩/\e=.exit 0/\r.get 0=some (.int .i64 (Nat.gcd a b:Nat))) (fun q r s1=>s1=⟨st.h,st.n,[]⟩/\q<9223372036854775808/\r.get 1=some (.int .i64 q)/\∃k:Nat,k<9223372036854775808/\r.get 0=some (.int .i64 k)/\Nat.gcd k q=Nat.gcd a b) b ?_ ?_ ?_
 ·exact⟨rfl,hb,by simp,a,ha,by simp,rfl⟩
 ·rintro q r _ hr hf ⟨rfl,hq,h1,k,hk,h0,hg⟩
  rw[bl]
  by_cases hz:q=0
  ·subst hz
   rw[Nat.gcd_zero_right]at hg
   simp[A.se,hr,hf,h0,h1,hg]
  ·have i1:(0:Int)<(q:Int):=by omega
   have i2:0<q:=by omega
   have i3:¬(q:Int)=0:=by omega
   have t1:(k:Int).tmod q=((k%q:Nat):Int):=by rw[D4 (by omega)];omega
   have t2:bj .i64 ((k%q:Nat):Int)=((k%q:Nat):Int):=cD (by omega) (by have:=kO k i2;omega)
   have ay:=kO k i2
   simp[A.se,hr,hf,h0,h1,i1,i2,i3,hz,t1,t2,ct.cv]
   exact⟨k%q,ay,by omega,by simp,q,hq,rfl,by rw[<-hg,Nat.gcd_comm k q,Nat.gcd_rec q k,Nat.gcd_comm]⟩
 ·rintro _ r _ hr ⟨rfl,rfl,h0⟩
  simp[hr,h0]
end
end Go.Mx
