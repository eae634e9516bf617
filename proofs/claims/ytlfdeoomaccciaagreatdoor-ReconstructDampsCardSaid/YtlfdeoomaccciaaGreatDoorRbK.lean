/-lensletref01-/
import Derived.Test.YtlfdeoomaccciaaGreatDoorRbE
set_option linter.all false
namespace Go.Mx
noncomputable section
open Go Go.Proofs
variable {s:aM}
set_option maxRecDepth 1000000
def A.b130:=A.q Tryz.f130
def A.k130:=@A.kk 130 25 [.cell 2 (some 2),.cell 3 (some 2)] A.b130 (by kernel_rfl) rfl
def A.b49:=A.q Tryz.f49
def A.k49:=@A.kk 49 96 [.tmp 2] A.b49 (by kernel_rfl) rfl
def Zsk(hk:ah s<s.length)(hp:cE (s.take (ah s))=true)(hd:cE (s.drop (ah s+1))=true)(p1:1<=(s.take (ah s)).length)(d1:1<=(s.drop (ah s+1)).length)(hl:s.length<=100000){h:T O}{N:Nat}:Fn A.C 130 [.str s] h N (fun v h' n'=>∃x y,v=.aV [.agg [.bool false,x],.agg [.bool false,y]]/\Dn h' n' x (aG (s.take (ah s)))/\Dn h' n' y (aG (s.drop (ah s+1)))):=by
 intro w
 rw[aN,A.k130 (by simp)]
 have cy:=fun st=>Fl (s:=s) (st:=st) (by omega)
 have c1:¬((ah s:Int)=(s.length:Int)):=by omega
 have c2:¬(ah s=s.length):=by omega
 have c3:(ah s:Int)<=(s.length:Int):=by omega
 have c4:(ah s:Int)+1<=(s.length:Int):=by omega
 have c5:((ah s:Int)+1).toNat=ah s+1:=by omega
 simp[A.b130,cy,c1,c2,c3,c4,c5,aE,aC]
 refine aB (Sa hp p1 (by simp;omega)) ?_
 rintro v1 h1 n1 k1 ⟨x,rfl,hx⟩
 have nx:¬((aG (s.take (ah s)):Nat):Int)<0:=by omega
 simp(disch:=omega) [cy,c1,c2,c3,c4,c5,aE,aC,nx]
 refine aB (Sa hd d1 (by simp;omega)) ?_
 rintro v2 h2 n2 k2 ⟨y,rfl,hy⟩
 have ny:¬((aG (s.drop (ah s+1)):Nat):Int)<0:=by omega
 have fk:=k1.le
 have il:=k2.le
 have hx:=Dn.ae hx k2
 have r0:=(k2.get N (by omega)).trans (k1.get N (by omega))
 have r1:=(k2.get (N+1) (by omega)).trans (k1.get (N+1) (by omega))
 simp at r0 r1
 have jo:∀u∈([.bool false,.aa]:List V),∀k n,u≠V.int k n:=by intro u hu k n;simp at hu;rcases hu with rfl|rfl<;>simp
 have xN:=(Sl.form hx).one
 have qu:=(Sl.form hy).one
 unfold V.one at xN qu
 have Ov:N<n1:=by omega
 have Ow:N<n2:=by omega
 have Ox:N+1<n2:=by omega
 have Z6:¬N+1=N:=by omega
 simp[r0,r1,ny,nx,ad,bD,xN,qu,Ov,Ow,Ox,aO,aD,ct.cv,aA]
 have xY:=Sl.setInt (i:=N) (c1:=[.bool false,x]) (e1:=146) (w1:=true) hx r0 jo rfl
 have ph:=Sl.setInt (i:=N) (c1:=[.bool false,x]) (e1:=146) (w1:=true) hy r0 jo rfl
 have Fj:(h2.set N (.cells [.bool false,x] 146 true)).get (N+1)=some (.cells [.bool false,.aa] 146 true):=by rw[T.ag,ak (by omega)];exact r1
 have yE:=Sl.setInt (i:=N+1) (c1:=[.bool false,y]) (e1:=146) (w1:=true) xY Fj jo rfl
 have sW:=Sl.setInt (i:=N+1) (c1:=[.bool false,y]) (e1:=146) (w1:=true) ph Fj jo rfl
 have k0:=((ab.refl (h:=h) (n:=N)).new (.cells [.bool false,.aa] 146 true)).new (.cells [.bool false,.aa] 146 true)
 exact⟨(((k0.trans k1).trans k2).set (aQ N)).set (by omega),x,y,⟨rfl,rfl⟩,yE,sW⟩
def Sb{s:aM}(h:jc s=true):cE s=true/\1<=s.length:=by
 cases s with
 |nil=>cases h
 |cons c s=>
  unfold jc at h
  rw[iy]at h
  exact⟨h.1,by simp⟩
def Sd:ds 1=[1]:=by rw[Ae (by decide),tB];rfl
def Se(h:cE s=true)(hl:s.length<=100000):(ds (aG s)).length<1000000000000:=by
 have h1:=BB h
 have h2:(10:Nat)^s.length<=1000000000^s.length:=Gl (by decide) _
 have:=Jv (n:=aG s) (k:=s.length) (by omega)
 omega
def Zso{s:aM}(hl:s.length<=100000){h:T O}{N:Nat}:Fn A.C 49 [.str s] h N (fun v _ _=>v=.int .i64 (bf s:Nat)):=by
 intro w
 rw[aN,A.k49 (by simp)]
 cases s with
 |nil=>
  have cy:=fun st=>Fl (s:=[]) (st:=st) (by simp)
  have eX:=fun st=>NQ (s:=[]) (st:=st) (by simp)
  simp[A.b49,cy,ah,aC,eX,jc,aA]
  exact⟨ab.refl,rfl⟩
 |cons c t=>
  by_cases h45:cI c=45
  ·have er:bf (c::t)=ks true (t.take (ah t)) (decide (ah t<t.length)) (t.drop (ah t+1)):=by
    have:c.toNat=45:=by unfold cI at h45;omega
    simp[bf,JR,cF,bn,this]
   rw[er]
   have cn:(0:Int)<(t.length:Int)+1:=by omega
   have cy:=fun st=>Fl (s:=t) (st:=st) (by simp at hl;omega)
   have eX:=fun st=>NQ (s:=t.take (ah t)) (st:=st) (by simp at hl ⊢;omega)
   have fJ:(ah t:Int)<=(t.length:Int):=by have:=EK t;omega
   have fE:ah t<=t.length:=EK t
   have iH:(t.take (ah t)).length=ah t:=by simp;omega
   have iw:(t.drop (ah t+1)).length=t.length-(ah t+1):=by simp
   have dm:=h45
   have fQ:=h45
   have px:=h45
   simp at hl
   generalize hp:t.take (ah t)=p at*
   generalize lZ:t.drop (ah t+1)=d at*
   by_cases hA:jc p=true
   ·by_cases hz:p=[48]
    ·have e1:(p==[48])=true:=by simp[hz]
     simp(disch:=first|(simp;done)|omega|(simp only[bC,cB,bp];omega)|rfl) [A.b49,cn,cy,eX,fJ,fE,hp,lZ,aC,aE,dm,fQ,px,hA,e1,aA]
     exact⟨ab.refl,by simp[ks,gw,hz]⟩
    ·have e1:(p==[48])=false:=by simp[hz]
     by_cases pM:ah t<t.length
     ·have fR:(ah t:Int)<(t.length:Int):=by omega
      have qj:=fun st=>NQ (s:=d) (st:=st) (by omega)
      by_cases hD:jc d=true
      ·by_cases h48:d=[48]
       ·have e8:(d==[48])=true:=by simp[h48]
        simp(disch:=first|(simp;done)|omega|(simp only[bC,cB,bp];omega)|rfl) [A.b49,cn,cy,eX,fJ,fE,hp,lZ,aC,aE,dm,fQ,px,hA,e1,pM,fR,qj,hD,e8,aA]
        exact⟨ab.refl,by simp[ks,gw,h48]⟩
       ·have e8:(d==[48])=false:=by simp[h48]
        by_cases zo:d=[49]
        ·have e9:(d==[49])=true:=by simp[zo]
         simp(disch:=first|(simp;done)|omega|(simp only[bC,cB,bp];omega)|rfl) [A.b49,cn,cy,eX,fJ,fE,hp,lZ,aC,aE,dm,fQ,px,hA,e1,pM,fR,qj,hD,e8,e9,aA]
         exact⟨ab.refl,by simp[ks,gw,zo]⟩
        ·have e9:(d==[49])=false:=by simp[zo]
         have dB:gw true p true d=true:=by simp[gw,hA,hD,h48,zo,hz]
         by_cases b6:600<p.length
         ·have b6':(600:Int)<(ah t:Int):=by omega
          simp(disch:=first|(simp;done)|omega|(simp only[bC,cB,bp];omega)|rfl) [A.b49,cn,cy,eX,fJ,fE,hp,lZ,aC,aE,dm,fQ,px,hA,e1,pM,fR,qj,hD,e8,e9,b6',aA]
          exact⟨ab.refl,by simp[ks,dB,b6]⟩
         ·have b6':¬(600:Int)<(ah t:Int):=by omega
          by_cases b7:600<d.length
          ·have b7':(600:Int)<(t.length:Int)-(ah t:Int)-1:=by omega
           simp(disch:=first|(simp;done)|omega|(simp only[bC,cB,bp];omega)|rfl) [A.b49,cn,cy,eX,fJ,fE,hp,lZ,aC,aE,dm,fQ,px,hA,e1,pM,fR,qj,hD,e8,e9,b6',b7',aA]
           exact⟨ab.refl,by simp[ks,dB,b6,b7]⟩
          ·have b7':¬(600:Int)<(t.length:Int)-(ah t:Int)-1:=by omega
           obtain⟨pa,pb⟩:=Sb hA
           obtain⟨da,db⟩:=Sb hD
           simp(disch:=first|(simp;done)|omega|(simp only[bC,cB,bp];omega)|rfl) [A.b49,cn,cy,eX,fJ,fE,hp,lZ,aC,aE,dm,fQ,px,hA,e1,pM,fR,qj,hD,e8,e9,b6',b7']
           refine aB (Zsk pM (by rw[hp];exact pa) (by rw[lZ];exact da) (by rw[hp];exact pb) (by rw[lZ];exact db) (by omega)) ?_
           rintro v1 h1 n1 k1 ⟨x,y,rfl,hx,hy⟩
           rw[hp]at hx
           rw[lZ]at hy
           have xN:=(Sl.form hx).one
           have qu:=(Sl.form hy).one
           unfold V.one at xN qu
           have kx:=((((ab.refl (h:=h1) (n:=n1)).new (.cells [.bool false,.aa] 146 true)).new (.cells [.bool false,.aa] 146 true)).set (i:=n1) (o:=.cells [.bool false,x] 146 true) (aQ n1)).set (i:=n1+1) (o:=.cells [.bool false,y] 146 true) (by omega)
           simp[ad,bD,xN,qu]
           refine aB (R7 (hx.ae kx) (hy.ae kx) (Se pa (by omega)) (Se da (by omega))) ?_
           rintro z h2 n2 k2 dL
           have kk:=(k1.trans kx).trans k2
           have lz:=dL.len
           rw[ib]at lz
           have fH:¬n1<N:=by have:=k1.le;omega
           have mC:¬n1+1<N:=by have:=k1.le;omega
           generalize hG:Nat.gcd (aG p) (aG d)=G at*
           by_cases g1:G=1
           ·subst g1
            rw[Sd]at lz
            obtain⟨b1,b2,b3,b4,b5,z1,z2,z3,z4⟩:=Sl.at (show Sl h2 n2 z (dI [1]) from Sd▸dL) (j:=0) (x:=.int .i64 1) rfl
            simp at z4
            simp[lz,z1,z3,z4,aE,aA,fH,mC]
            exact⟨kk,by simp[ks,dB,b6,b7,hG]⟩
           ·have tN:ks true p true d=1:=by simp[ks,dB,b6,b7,hG,g1]
            by_cases g2:(ds G).length=1
            ·obtain⟨gx,Oy⟩:=bh (l:=ds G) (k:=0) (by omega)
             obtain⟨b1,b2,b3,b4,b5,z1,z2,z3,z4⟩:=Sl.at (show Sl h2 n2 z (dI (ds G)) from dL) (ic Oy)
             simp at z4
             have Z7:¬gx=1:=fun hc=>g1 (by
              have hv:=gm G
              rw[NV Oy,zV (by omega)]at hv
              simp[vI,pI]at hv
              omega)
             simp[lz,g2,z1,z3,z4,Z7,aE,aA,fH,mC,tN]
             exact kk
            ·have pX:¬((ds G).length:Int)=1:=by omega
             simp[lz,g2,pX,aE,aA,fH,mC,tN]
             exact kk
      ·have hD:jc d=false:=by simpa using hD
       simp(disch:=first|(simp;done)|omega|(simp only[bC,cB,bp];omega)|rfl) [A.b49,cn,cy,eX,fJ,fE,hp,lZ,aC,aE,dm,fQ,px,hA,e1,pM,fR,qj,hD,aA]
       exact⟨ab.refl,by simp[ks,gw,hD]⟩
     ·have Z8:ah t=t.length:=by omega
      have fR:¬(ah t:Int)<(t.length:Int):=by omega
      have dB:gw true p false d=true:=by simp[gw,hA,hz]
      have Z9:¬600<d.length:=by omega
      have b7':¬(600:Int)<(t.length:Int)-(ah t:Int)-1:=by omega
      by_cases b6:600<p.length
      ·have b6':(600:Int)<(ah t:Int):=by omega
       simp(disch:=first|(simp;done)|omega|(simp only[bC,cB,bp];omega)|rfl) [A.b49,cn,cy,eX,fJ,fE,hp,lZ,aC,aE,dm,fQ,px,hA,e1,pM,fR,b6',aA]
       exact⟨ab.refl,by simp[ks,dB,b6]⟩
      ·have b6':¬(600:Int)<(ah t:Int):=by omega
       simp(disch:=first|(simp;done)|omega|(simp only[bC,cB,bp];omega)|rfl) [A.b49,cn,cy,eX,fJ,fE,hp,lZ,aC,aE,dm,fQ,px,hA,e1,pM,fR,b6',b7',aA]
       exact⟨ab.refl,by simp[ks,dB,b6,Z9]⟩
   ·have hA:jc p=false:=by simpa using hA
    simp(disch:=first|(simp;done)|omega|(simp only[bC,cB,bp];omega)|rfl) [A.b49,cn,cy,eX,fJ,fE,hp,lZ,aC,aE,dm,fQ,px,hA,aA]
    exact⟨ab.refl,by simp[ks,gw,hA]⟩
  ·have xU:cF (c::t)=false:=by
    simp only[cF,decide_eq_false_iff_not];unfold cI at h45;omega
   obtain⟨t,ht⟩:∃t',t'=c::t:=⟨c::t,rfl⟩
   rw[<-ht]at hl xU ⊢
   have fQ:t[0]?=some c:=by rw[ht];rfl
   have dm:t.head?=some c:=by rw[ht];rfl
   have hlen:0<t.length:=by rw[ht];simp
   have px:t≠[]:=by rw[ht];simp
   have fe:(0:Int)<(t.length:Int):=by omega
   have cn:0<t.length:=hlen
   clear ht
   have er:bf t=ks false (t.take (ah t)) (decide (ah t<t.length)) (t.drop (ah t+1)):=by
    simp[bf,JR,bn,xU]
   rw[er]
   have cy:=fun st=>Fl (s:=t) (st:=st) (by omega)
   have eX:=fun st=>NQ (s:=t.take (ah t)) (st:=st) (by simp;omega)
   have fJ:(ah t:Int)<=(t.length:Int):=by have:=EK t;omega
   have fE:ah t<=t.length:=EK t
   have iH:(t.take (ah t)).length=ah t:=by simp;omega
   have iw:(t.drop (ah t+1)).length=t.length-(ah t+1):=by simp
   generalize hp:t.take (ah t)=p at*
   generalize lZ:t.drop (ah t+1)=d at*
   by_cases hA:jc p=true
   ·have e1:True:=trivial
    by_cases pM:ah t<t.length
    ·have fR:(ah t:Int)<(t.length:Int):=by omega
     have qj:=fun st=>NQ (s:=d) (st:=st) (by omega)
     by_cases hD:jc d=true
     ·by_cases h48:d=[48]
      ·have e8:(d==[48])=true:=by simp[h48]
       simp(disch:=first|(simp;done)|omega|(simp only[bC,cB,bp];omega)|rfl) [-getElem?_pos,A.b49,cn,cy,eX,fJ,fE,hp,lZ,aC,aE,dm,fQ,px,h45,fe,hA,e1,pM,fR,qj,hD,e8,aA]
       exact⟨ab.refl,by simp[ks,gw,h48]⟩
      ·have e8:(d==[48])=false:=by simp[h48]
       by_cases zo:d=[49]
       ·have e9:(d==[49])=true:=by simp[zo]
        simp(disch:=first|(simp;done)|omega|(simp only[bC,cB,bp];omega)|rfl) [-getElem?_pos,A.b49,cn,cy,eX,fJ,fE,hp,lZ,aC,aE,dm,fQ,px,h45,fe,hA,e1,pM,fR,qj,hD,e8,e9,aA]
        exact⟨ab.refl,by simp[ks,gw,zo]⟩
       ·have e9:(d==[49])=false:=by simp[zo]
        have dB:gw false p true d=true:=by simp[gw,hA,hD,h48,zo]
        by_cases b6:600<p.length
        ·have b6':(600:Int)<(ah t:Int):=by omega
         simp(disch:=first|(simp;done)|omega|(simp only[bC,cB,bp];omega)|rfl) [-getElem?_pos,A.b49,cn,cy,eX,fJ,fE,hp,lZ,aC,aE,dm,fQ,px,h45,fe,hA,e1,pM,fR,qj,hD,e8,e9,b6',aA]
         exact⟨ab.refl,by simp[ks,dB,b6]⟩
        ·have b6':¬(600:Int)<(ah t:Int):=by omega
         by_cases b7:600<d.length
         ·have b7':(600:Int)<(t.length:Int)-(ah t:Int)-1:=by omega
          simp(disch:=first|(simp;done)|omega|(simp only[bC,cB,bp];omega)|rfl) [-getElem?_pos,A.b49,cn,cy,eX,fJ,fE,hp,lZ,aC,aE,dm,fQ,px,h45,fe,hA,e1,pM,fR,qj,hD,e8,e9,b6',b7',aA]
          exact⟨ab.refl,by simp[ks,dB,b6,b7]⟩
         ·have b7':¬(600:Int)<(t.length:Int)-(ah t:Int)-1:=by omega
          obtain⟨pa,pb⟩:=Sb hA
          obtain⟨da,db⟩:=Sb hD
          simp(disch:=first|(simp;done)|omega|(simp only[bC,cB,bp];omega)|rfl) [-getElem?_pos,A.b49,cn,cy,eX,fJ,fE,hp,lZ,aC,aE,dm,fQ,px,h45,fe,hA,e1,pM,fR,qj,hD,e8,e9,b6',b7']
          refine aB (Zsk pM (by rw[hp];exact pa) (by rw[lZ];exact da) (by rw[hp];exact pb) (by rw[lZ];exact db) (by omega)) ?_
          rintro v1 h1 n1 k1 ⟨x,y,rfl,hx,hy⟩
          rw[hp]at hx
          rw[lZ]at hy
          have xN:=(Sl.form hx).one
          have qu:=(Sl.form hy).one
          unfold V.one at xN qu
          have kx:=((((ab.refl (h:=h1) (n:=n1)).new (.cells [.bool false,.aa] 146 true)).new (.cells [.bool false,.aa] 146 true)).set (i:=n1) (o:=.cells [.bool false,x] 146 true) (aQ n1)).set (i:=n1+1) (o:=.cells [.bool false,y] 146 true) (by omega)
          simp[ad,bD,xN,qu]
          refine aB (R7 (hx.ae kx) (hy.ae kx) (Se pa (by omega)) (Se da (by omega))) ?_
          rintro z h2 n2 k2 dL
          have kk:=(k1.trans kx).trans k2
          have lz:=dL.len
          rw[ib]at lz
          have fH:¬n1<N:=by have:=k1.le;omega
          have mC:¬n1+1<N:=by have:=k1.le;omega
          generalize hG:Nat.gcd (aG p) (aG d)=G at*
          by_cases g1:G=1
          ·subst g1
           rw[Sd]at lz
           obtain⟨b1,b2,b3,b4,b5,z1,z2,z3,z4⟩:=Sl.at (show Sl h2 n2 z (dI [1]) from Sd▸dL) (j:=0) (x:=.int .i64 1) rfl
           simp at z4
           simp[lz,z1,z3,z4,aE,aA,fH,mC]
           exact⟨kk,by simp[ks,dB,b6,b7,hG]⟩
          ·have tN:ks false p true d=1:=by simp[ks,dB,b6,b7,hG,g1]
           by_cases g2:(ds G).length=1
           ·obtain⟨gx,Oy⟩:=bh (l:=ds G) (k:=0) (by omega)
            obtain⟨b1,b2,b3,b4,b5,z1,z2,z3,z4⟩:=Sl.at (show Sl h2 n2 z (dI (ds G)) from dL) (ic Oy)
            simp at z4
            have Z7:¬gx=1:=fun hc=>g1 (by
             have hv:=gm G
             rw[NV Oy,zV (by omega)]at hv
             simp[vI,pI]at hv
             omega)
            simp[lz,g2,z1,z3,z4,Z7,aE,aA,fH,mC,tN]
            exact kk
           ·have pX:¬((ds G).length:Int)=1:=by omega
            simp[lz,g2,pX,aE,aA,fH,mC,tN]
            exact kk
     ·have hD:jc d=false:=by simpa using hD
      simp(disch:=first|(simp;done)|omega|(simp only[bC,cB,bp];omega)|rfl) [-getElem?_pos,A.b49,cn,cy,eX,fJ,fE,hp,lZ,aC,aE,dm,fQ,px,h45,fe,hA,e1,pM,fR,qj,hD,aA]
      exact⟨ab.refl,by simp[ks,gw,hD]⟩
    ·have Z8:ah t=t.length:=by omega
     have fR:¬(ah t:Int)<(t.length:Int):=by omega
     have dB:gw false p false d=true:=by simp[gw,hA]
     have Z9:¬600<d.length:=by omega
     have b7':¬(600:Int)<(t.length:Int)-(ah t:Int)-1:=by omega
     by_cases b6:600<p.length
     ·have b6':(600:Int)<(ah t:Int):=by omega
      simp(disch:=first|(simp;done)|omega|(simp only[bC,cB,bp];omega)|rfl) [-getElem?_pos,A.b49,cn,cy,eX,fJ,fE,hp,lZ,aC,aE,dm,fQ,px,h45,fe,hA,e1,pM,fR,b6',aA]
      exact⟨ab.refl,by simp[ks,dB,b6]⟩
     ·have b6':¬(600:Int)<(ah t:Int):=by omega
      simp(disch:=first|(simp;done)|omega|(simp only[bC,cB,bp];omega)|rfl) [-getElem?_pos,A.b49,cn,cy,eX,fJ,fE,hp,lZ,aC,aE,dm,fQ,px,h45,fe,hA,e1,pM,fR,b6',b7',aA]
      exact⟨ab.refl,by simp[ks,dB,b6,Z9]⟩
   ·have hA:jc p=false:=by simpa using hA
    simp(disch:=first|(simp;done)|omega|(simp only[bC,cB,bp];omega)|rfl) [-getElem?_pos,A.b49,cn,cy,eX,fJ,fE,hp,lZ,aC,aE,dm,fQ,px,h45,fe,hA,aA]
    exact⟨ab.refl,by simp[ks,gw,hA]⟩
variable {N:Nat} {a b:Int} {h:T O} {x y:V}
def A.b136:=A.q Tryz.f136
def A.k136:=@A.kk 136 57 [.tmp 4] A.b136 (by kernel_rfl) rfl
def Oz(hb:0<b):b.natAbs/Nat.gcd a.natAbs b.natAbs=(Rat.divInt a b).den:=by
 have h:((Rat.divInt a b).den:Int)=((b.natAbs/Nat.gcd a.natAbs b.natAbs:Nat):Int):=by
  rw[Rat.den_divInt,ak (by omega),Int.gcd_comm]
  rfl
 exact(Int.ofNat_inj.1 h).symm
def Io(hb:0<b):(if decide (a<0)=true then -((a.natAbs/Nat.gcd a.natAbs b.natAbs:Nat):Int) else ((a.natAbs/Nat.gcd a.natAbs b.natAbs:Nat):Int))=(Rat.divInt a b).num:=by
 rw[Rat.num_divInt,Int.sign_eq_one_of_pos hb,Int.one_mul,Int.gcd_comm]
 have hd:((Int.gcd a b:Nat):Int)∣a:=Int.gcd_dvd_left ..
 have he:Nat.gcd a.natAbs b.natAbs=Int.gcd a b:=rfl
 rw[he,Int.natCast_ediv]
 by_cases ha:a<0
 ·have h1:(a.natAbs:Int)= -a:=by omega
  simp only[ha,decide_true,if_true,h1]
  rw[Int.neg_ediv_of_dvd hd,Int.neg_neg]
 ·have h1:(a.natAbs:Int)=a:=by omega
  simp[ha,h1]
def Ye6{z:Int}:(aK z).length<=9*(ds z.natAbs).length+2:=by
 have:=OA (n:=z.natAbs)
 unfold aK
 split<;>simp<;>omega
def Yk8{m e:Nat}(h0:0<m)(he:m%1000000000=e):m=1↔(ds m).length=1/\e=1:=by
 constructor
 ·rintro rfl
  exact⟨by have:=Yk7 (r:=1) (by omega);rw[<-this];decide,by omega⟩
 ·rintro⟨h1,h2⟩
  have h3:=vG (fY m)
  rw[gm,h1,QS,Nat.pow_one]at h3
  omega
def Ztl(hx:Rg h N x a)(hy:Rg h N y b)(hb:0<b)(l3:(ds a.natAbs).length<100000000000)(l4:(ds b.natAbs).length<100000000000):Fn A.C 136 [x,y] h N (fun u _ _=>u=.str (aR (Rat.divInt a b))):=by
 intro w
 obtain⟨u,rfl,lO⟩:=hx
 obtain⟨v,rfl,my⟩:=hy
 have o1:=Sl.form lO |>.one
 have o2:=Sl.form lO |>.cells
 have o3:=Sl.form my |>.one
 have o4:=Sl.form my |>.cells
 unfold V.one at o1 o3
 unfold V.cells at o2 o4
 have l1:(ds a.natAbs).length<1000000000000:=by omega
 have l2:(ds b.natAbs).length<1000000000000:=by omega
 have ta:¬b<0:=by omega
 rw[show decide (b<0)=false by simp[ta]]
 have kB:=(((ab.refl (h:=h) (n:=N)).new (.cells [.bool (decide (a<0)),u] 146 true)).new (.cells [.bool false,v] 146 true))
 have hu:=Sl.ae lO kB
 have hv:=Sl.ae my kB
 rw[aN,A.k136 (by simp)]
 simp[A.b136,o1,o2,o3,o4,ad,aO,aD,aE,ta]
 generalize hB:(h.set N (.cells [.bool (decide (a<0)),u] 146 true)).set (N+1) (.cells [.bool false,v] 146 true)=HB at*
 have gN:HB.get N=some (.cells [.bool (decide (a<0)),u] 146 true):=by rw[<-hB];simp
 have gM:HB.get (N+1)=some (.cells [.bool false,v] 146 true):=by rw[<-hB];simp
 refine aB (R7 hu hv l1 l2) ?_
 rintro v1 h1 n1 k1 q1
 have Ds:=(k1.get N (by omega)).trans gN
 have Dt:=(k1.get (N+1) (by omega)).trans gM
 have td:0<Nat.gcd a.natAbs b.natAbs:=P5 _ (by omega)
 have lg:(ds (Nat.gcd a.natAbs b.natAbs)).length<1000000000000:=qx (uI (Nat.gcd_le_right _ (by omega))) l2
 have uT:=k1.le
 simp[Ds,Dt,o1,o2,o3,o4,ad,aO,aD]
 refine aB (Om (hu.ae k1) q1 td l1 lg) ?_
 rintro _ h2 n2 k2 ⟨q,r1,rfl,q2, -⟩
 have Ip:=(k2.get (N+1) (by omega)).trans Dt
 have kK:=k2.le
 simp[Ip,o1,o2,o3,o4,ad,aO,aD]
 refine aB (Om ((hv.ae k1).ae k2) (q1.ae k2) td l2 lg) ?_
 rintro _ h3 n3 k3 ⟨d,r2,rfl,q3, -⟩
 have gN3:=(k3.get N (by omega)).trans ((k2.get N (by omega)).trans Ds)
 have yM:=k3.le
 rw[Oz hb]at q3
 have lq:(ds (a.natAbs/Nat.gcd a.natAbs b.natAbs)).length<100000000000:=qx (uI (vu _ _)) l3
 have AR:(ds (Rat.divInt a b).den).length<100000000000:=by rw[<-Oz hb];exact qx (uI (vu _ _)) l4
 simp[gN3,o1,o2,o3,o4,ad,aO,aD]
 refine aB (xC (n:=a.natAbs/Nat.gcd a.natAbs b.natAbs) (q2.ae k3) (fY _) (gm _) (by omega)) ?_
 rintro v4 h4 n4 k4 q4
 have FW:=k4.le
 rw[Io hb]at q4
 simp[]
 refine aB (Kg q4 (by rw[<-Io hb];split<;>(first|rw[Bc,dC]|rw[dC])<;>exact lq)) ?_
 rintro _ h5 n5 k5 rfl
 have le5:=k5.le
 obtain⟨m,hm⟩:∃m,(Rat.divInt a b).den=m:=⟨_,rfl⟩
 have gV:0<m:=by rw[<-hm];exact Rat.den_pos _
 rw[hm]at q3 AR
 have cy:=Ye6 (z:=(Rat.divInt a b).num)
 have Iq:(ds (Rat.divInt a b).num.natAbs).length<100000000000:=by rw[<-Io hb];split<;>(first|rw[Bc,dC]|rw[dC])<;>exact lq
 have ki:aR (Rat.divInt a b)=if m=1 then aK (Rat.divInt a b).num else aK (Rat.divInt a b).num++47::ar m:=by unfold aR;rw[hm]
 rw[ki]
 generalize aK (Rat.divInt a b).num=s at*
 have Du:Dn h5 n5 d m:=(q3.ae k4).ae k5
 have ld:=Sl.len Du
 rw[ib]at ld
 have ry:(ds m).length≠0:=fun hc=>(by omega:m≠0) (CH.1 (q8 hc))
 have hg:=QQ (i:=0) (n:=m) (by omega)
 rw[DY,Nat.div_one]at hg
 obtain⟨e,he⟩:∃e,m%1000000000=e:=⟨_,rfl⟩
 rw[he]at hg
 have tG:m=1↔(ds m).length=1/\e=1:=Yk8 gV he
 obtain⟨i,o,c,te,rw_,p1,p2,p3,p4⟩:=Sl.at Du (ic hg)
 rw[mP]at p4
 obtain⟨L,hL⟩:∃L,(ds m).length=L:=⟨_,rfl⟩
 rw[hL]at ld tG
 have iw:=OA (n:=m)
 rw[hL]at iw AR
 have df:IntKind.max .i64=9223372036854775807:=rfl
 have b1:¬(9223372036854775807:Int)<(s.length:Int)+1:=by omega
 have b2:¬(9223372036854775807:Int)<(s.length:Int)+1+((ar m).length:Int):=by omega
 have yg:aK (m:Int)=ar m:=by unfold aK;rw[ak (by omega),dC]
 have wx:(ds m).length<1152921504606846976:=by omega
 have K5:ab h N h5 n5:=((((kB.trans k1).trans k2).trans k3).trans k4).trans k5
 by_cases mO:m=1
 ·obtain⟨rfl,rfl⟩:=tG.1 mO
  rw[ay mO]
  clear cy Iq iw b1 b2 wx AR
  simp[ld,p1,p3,p4,ad,aA,aE]
  exact K5
 ·rw[ak mO]
  by_cases Fm:L=1
  ·have M3:¬e=1:=fun hc=>mO (tG.2 ⟨Fm,hc⟩)
   have vf:¬(e:Int)=1:=by omega
   subst Fm
   clear cy Iq iw
   simp[ld,p1,p3,p4,ad,aA,aE,M3,vf,g_,df,b1]
   refine aB (xC (b:=false) (n:=m) Du (fY _) (gm _) wx) ?_
   rintro v6 h6 n6 k6 q6
   have q7:Rg h6 n6 v6 (m:Int):=by simpa using q6
   simp[]
   refine aB (Kg q7 (by rw[dC,hL];exact AR)) ?_
   rintro _ h7 n7 k7 rfl
   rw[yg]
   simp[g_,df,b2,aA]
   exact(K5.trans k6).trans k7
  ·have hL2:¬(L:Int)=1:=by omega
   clear cy Iq iw
   simp[ld,Fm,hL2,ad,aA,aE,g_,df,b1]
   refine aB (xC (b:=false) (n:=m) Du (fY _) (gm _) wx) ?_
   rintro v6 h6 n6 k6 q6
   have q7:Rg h6 n6 v6 (m:Int):=by simpa using q6
   simp[]
   refine aB (Kg q7 (by rw[dC,hL];exact AR)) ?_
   rintro _ h7 n7 k7 rfl
   rw[yg]
   simp[g_,df,b2,aA]
   exact(K5.trans k6).trans k7
def Ztm{P Q:Int}(hx:Rg h N x P)(hy:Rg h N y Q)(Dk:Q<0)(l3:(ds P.natAbs).length<100000000000)(l4:(ds Q.natAbs).length<100000000000):Fn A.C 136 [x,y] h N (fun u _ _=>u=.str (aR (Rat.divInt P Q))):=by
 intro w
 obtain⟨u0,rfl,lO⟩:=hx
 obtain⟨v0,rfl,my⟩:=hy
 have o1:=Sl.form lO |>.one
 have o2:=Sl.form lO |>.cells
 have o3:=Sl.form my |>.one
 have o4:=Sl.form my |>.cells
 unfold V.one at o1 o3
 unfold V.cells at o2 o4
 have mG:Rg h N (.agg [.bool (decide (P<0)),u0]) P:=⟨u0,rfl,lO⟩
 have xG:Rg h N (.agg [.bool true,v0]) Q:=⟨v0,by simp[Dk],my⟩
 rw[show decide (Q<0)=true by simp[Dk]]
 have kA:=(((ab.refl (h:=h) (n:=N)).new (.cells [.bool (decide (P<0)),u0] 146 true)).new (.cells [.bool true,v0] 146 true))
 rw[aN,A.k136 (by simp)]
 simp[A.b136,o1,o2,o3,o4,ad,aO,aD,aE]
 generalize hA:(h.set N (.cells [.bool (decide (P<0)),u0] 146 true)).set (N+1) (.cells [.bool true,v0] 146 true)=HA at*
 have gN0:HA.get N=some (.cells [.bool (decide (P<0)),u0] 146 true):=by rw[<-hA];simp
 have gM0:HA.get (N+1)=some (.cells [.bool true,v0] 146 true):=by rw[<-hA];simp
 refine aB (Zxe (mG.ae kA) (by omega)) ?_
 rintro _ m1 t1 j1 q1
 obtain⟨a,ha⟩:∃a,a= -P:=⟨_,rfl⟩
 rw[<-ha]at q1
 obtain⟨u,rfl,yo⟩:=q1
 have i1:=j1.le
 have Ds:=(j1.get N (by omega)).trans gN0
 have Dt:=(j1.get (N+1) (by omega)).trans gM0
 simp[Dt,Ds,o1,o2,o3,o4,ad,aO,aD]
 refine aB (Zxe ((xG.ae kA).ae j1) (by omega)) ?_
 rintro _ m2 t2 j2 q2
 obtain⟨b,lS⟩:∃b,b= -Q:=⟨_,rfl⟩
 rw[<-lS]at q2
 have hb:0<b:=by omega
 obtain⟨v,rfl,jL⟩:=q2
 rw[show decide (b<0)=false by simp;omega]
 have fU:Rat.divInt P Q=Rat.divInt a b:=by rw[ha,lS];exact(Rat.neg_divInt_neg P Q).symm
 rw[fU]
 have n1:=Yrd (b:=decide (P<0)) (Sl.form lO)
 have n2:=Yrd (b:=true) (Sl.form my)
 have i2:=j2.le
 have I3:=(j2.get N (by omega)).trans Ds
 have Ip:=(j2.get (N+1) (by omega)).trans Dt
 have s1:=Sl.form yo |>.one
 have s2:=Sl.form yo |>.cells
 have s3:=Sl.form jL |>.one
 have s4:=Sl.form jL |>.cells
 unfold V.one at s1 s3
 unfold V.cells at s2 s4
 have g1:N+1<t1:=by omega
 have g2:N+1<t2:=by omega
 have g3:N<t2:=by omega
 simp[I3,Ip,s1,s2,s3,s4,ad,bD,aO,aD,ct.cv,g1,g2,g3]
 have gM3:(m2.set N (.cells [.bool (decide (a<0)),u] 146 true)).get (N+1)=some (.cells [.bool true,v0] 146 true):=by rw[T.ag,ak (by omega)];exact Ip
 have kB:=((((kA.trans j1).trans j2).set (i:=N) (o:=.cells [.bool (decide (a<0)),u] 146 true) (by omega))).set (i:=N+1) (o:=.cells [.bool false,v] 146 true) (by omega)
 have hu:=Sl.setInt (Sl.setInt (yo.ae j2) I3 n1 (c1:=[.bool (decide (a<0)),u]) (e1:=146) (w1:=true) rfl) gM3 n2 (c1:=[.bool false,v]) (e1:=146) (w1:=true) rfl
 have hv:=Sl.setInt (Sl.setInt jL I3 n1 (c1:=[.bool (decide (a<0)),u]) (e1:=146) (w1:=true) rfl) gM3 n2 (c1:=[.bool false,v]) (e1:=146) (w1:=true) rfl
 generalize hB:(m2.set N (.cells [.bool (decide (a<0)),u] 146 true)).set (N+1) (.cells [.bool false,v] 146 true)=HB at*
 have gN:HB.get N=some (.cells [.bool (decide (a<0)),u] 146 true):=by rw[<-hB];simp
 have gM:HB.get (N+1)=some (.cells [.bool false,v] 146 true):=by rw[<-hB];simp
 have ea:a.natAbs=P.natAbs:=by omega
 have eb:b.natAbs=Q.natAbs:=by omega
 rw[<-ea]at l3
 rw[<-eb]at l4
 have l1:(ds a.natAbs).length<1000000000000:=by omega
 have l2:(ds b.natAbs).length<1000000000000:=by omega
 clear o1 o2 o3 o4
 have o1:=s1
 have o2:=s2
 have o3:=s3
 have o4:=s4
 clear s1 s2 s3 s4 gM3 I3 Ip Ds Dt gN0 gM0 n1 n2 hA fU
 refine aB (R7 hu hv l1 l2) ?_
 rintro v1 h1 n1 k1 q1
 have Ds:=(k1.get N (by omega)).trans gN
 have Dt:=(k1.get (N+1) (by omega)).trans gM
 have td:0<Nat.gcd a.natAbs b.natAbs:=P5 _ (by omega)
 have lg:(ds (Nat.gcd a.natAbs b.natAbs)).length<1000000000000:=qx (uI (Nat.gcd_le_right _ (by omega))) l2
 have uT:=k1.le
 simp[Ds,Dt,o1,o2,o3,o4,ad,aO,aD]
 refine aB (Om (hu.ae k1) q1 td l1 lg) ?_
 rintro _ h2 n2 k2 ⟨q,r1,rfl,q2, -⟩
 have Ip:=(k2.get (N+1) (by omega)).trans Dt
 have kK:=k2.le
 simp[Ip,o1,o2,o3,o4,ad,aO,aD]
 refine aB (Om ((hv.ae k1).ae k2) (q1.ae k2) td l2 lg) ?_
 rintro _ h3 n3 k3 ⟨d,r2,rfl,q3, -⟩
 have gN3:=(k3.get N (by omega)).trans ((k2.get N (by omega)).trans Ds)
 have yM:=k3.le
 rw[Oz hb]at q3
 have lq:(ds (a.natAbs/Nat.gcd a.natAbs b.natAbs)).length<100000000000:=qx (uI (vu _ _)) l3
 have AR:(ds (Rat.divInt a b).den).length<100000000000:=by rw[<-Oz hb];exact qx (uI (vu _ _)) l4
 simp[gN3,o1,o2,o3,o4,ad,aO,aD]
 refine aB (xC (n:=a.natAbs/Nat.gcd a.natAbs b.natAbs) (q2.ae k3) (fY _) (gm _) (by omega)) ?_
 rintro v4 h4 n4 k4 q4
 have FW:=k4.le
 rw[Io hb]at q4
 simp[]
 refine aB (Kg q4 (by rw[<-Io hb];split<;>(first|rw[Bc,dC]|rw[dC])<;>exact lq)) ?_
 rintro _ h5 n5 k5 rfl
 have le5:=k5.le
 obtain⟨m,hm⟩:∃m,(Rat.divInt a b).den=m:=⟨_,rfl⟩
 have gV:0<m:=by rw[<-hm];exact Rat.den_pos _
 rw[hm]at q3 AR
 have cy:=Ye6 (z:=(Rat.divInt a b).num)
 have Iq:(ds (Rat.divInt a b).num.natAbs).length<100000000000:=by rw[<-Io hb];split<;>(first|rw[Bc,dC]|rw[dC])<;>exact lq
 have ki:aR (Rat.divInt a b)=if m=1 then aK (Rat.divInt a b).num else aK (Rat.divInt a b).num++47::ar m:=by unfold aR;rw[hm]
 rw[ki]
 generalize aK (Rat.divInt a b).num=s at*
 have Du:Dn h5 n5 d m:=(q3.ae k4).ae k5
 have ld:=Sl.len Du
 rw[ib]at ld
 have ry:(ds m).length≠0:=fun hc=>(by omega:m≠0) (CH.1 (q8 hc))
 have hg:=QQ (i:=0) (n:=m) (by omega)
 rw[DY,Nat.div_one]at hg
 obtain⟨e,he⟩:∃e,m%1000000000=e:=⟨_,rfl⟩
 rw[he]at hg
 have tG:m=1↔(ds m).length=1/\e=1:=Yk8 gV he
 obtain⟨i,o,c,te,rw_,p1,p2,p3,p4⟩:=Sl.at Du (ic hg)
 rw[mP]at p4
 obtain⟨L,hL⟩:∃L,(ds m).length=L:=⟨_,rfl⟩
 rw[hL]at ld tG
 have iw:=OA (n:=m)
 rw[hL]at iw AR
 have df:IntKind.max .i64=9223372036854775807:=rfl
 have b1:¬(9223372036854775807:Int)<(s.length:Int)+1:=by omega
 have b2:¬(9223372036854775807:Int)<(s.length:Int)+1+((ar m).length:Int):=by omega
 have yg:aK (m:Int)=ar m:=by unfold aK;rw[ak (by omega),dC]
 have wx:(ds m).length<1152921504606846976:=by omega
 have K5:ab h N h5 n5:=((((kB.trans k1).trans k2).trans k3).trans k4).trans k5
 by_cases mO:m=1
 ·obtain⟨rfl,rfl⟩:=tG.1 mO
  rw[ay mO]
  clear cy Iq iw b1 b2 wx AR
  simp[ld,p1,p3,p4,ad,aA,aE]
  exact K5
 ·rw[ak mO]
  by_cases Fm:L=1
  ·have M3:¬e=1:=fun hc=>mO (tG.2 ⟨Fm,hc⟩)
   have vf:¬(e:Int)=1:=by omega
   subst Fm
   clear cy Iq iw
   simp[ld,p1,p3,p4,ad,aA,aE,M3,vf,g_,df,b1]
   refine aB (xC (b:=false) (n:=m) Du (fY _) (gm _) wx) ?_
   rintro v6 h6 n6 k6 q6
   have q7:Rg h6 n6 v6 (m:Int):=by simpa using q6
   simp[]
   refine aB (Kg q7 (by rw[dC,hL];exact AR)) ?_
   rintro _ h7 n7 k7 rfl
   rw[yg]
   simp[g_,df,b2,aA]
   exact(K5.trans k6).trans k7
  ·have hL2:¬(L:Int)=1:=by omega
   clear cy Iq iw
   simp[ld,Fm,hL2,ad,aA,aE,g_,df,b1]
   refine aB (xC (b:=false) (n:=m) Du (fY _) (gm _) wx) ?_
   rintro v6 h6 n6 k6 q6
   have q7:Rg h6 n6 v6 (m:Int):=by simpa using q6
   simp[]
   refine aB (Kg q7 (by rw[dC,hL];exact AR)) ?_
   rintro _ h7 n7 k7 rfl
   rw[yg]
   simp[g_,df,b2,aA]
   exact(K5.trans k6).trans k7
def Zji(hx:Rg h N x a)(hy:Rg h N y b)(hb:b≠0)(l3:(ds a.natAbs).length<100000000000)(l4:(ds b.natAbs).length<100000000000):Fn A.C 136 [x,y] h N (fun u _ _=>u=.str (aR (Rat.divInt a b))):=by
 rcases Int.lt_or_gt_of_ne hb with hb|hb
 ·exact Ztm hx hy hb l3 l4
 ·exact Ztl hx hy hb l3 l4
def A.OB:=A.q Tryz.f203
def A.rZ:=A.ql A.OB 0 []
def A.b203:=(fun x0=>A.qb A.OB [x0]) A.rZ
def A.k203:=@A.kk 203 12 [.tmp 4] A.b203 (by kernel_rfl) rfl
def Yed{a b:Nat}{st:St}(ha:a<9223372036854775808)(hb:b<9223372036854775808):A.C.call (.func 203 [] []) [.int .i64 a,.int .i64 b] st=some (.int .i64 (Nat.gcd a b:Nat),st):=by
 apply Call.eq
 rw[aN,A.k203 (by simp)]
 simp[A.b203]
 refine bG [(0,1),(5,10)] (fun e r s1=>s1=⟨st.h,st.n,[]⟩/\e=.exit 0/\r.get 0=some (.int .i64 (Nat.gcd a b:Nat))) (fun q r s1=>s1=⟨st.h,st.n,[]⟩/\q<9223372036854775808/\r.get 1=some (.int .i64 q)/\∃k:Nat,k<9223372036854775808/\r.get 0=some (.int .i64 k)/\Nat.gcd k q=Nat.gcd a b) b ?_ ?_ ?_
 ·exact⟨rfl,hb,by simp,a,ha,by simp,rfl⟩
 ·rintro q r _ hr hf ⟨rfl,hq,h1,k,hk,h0,hg⟩
  rw[bk]
  by_cases hz:q=0
  ·subst hz
   rw[Nat.gcd_zero_right]at hg
   simp[A.rZ,hr,hf,h0,h1,hg]
  ·have i1:(0:Int)<(q:Int):=by omega
   have i2:0<q:=by omega
   have i3:¬(q:Int)=0:=by omega
   have t1:(k:Int).tmod q=((k%q:Nat):Int):=by rw[D5 (by omega)];omega
   have t2:bl .i64 ((k%q:Nat):Int)=((k%q:Nat):Int):=cA (by omega) (by have:=kZ k i2;omega)
   have ax:=kZ k i2
   simp[A.rZ,hr,hf,h0,h1,i1,i2,i3,hz,t1,t2,ct.cv]
   exact⟨k%q,ax,by omega,by simp,q,hq,rfl,by rw[<-hg,Nat.gcd_comm k q,Nat.gcd_rec q k,Nat.gcd_comm]⟩
 ·rintro _ r _ hr ⟨rfl,rfl,h0⟩
  simp[hr,h0]
end
end Go.Mx
