/-lensletref01-/
import Derived.Test.YtdlikflhcjmkeaaGreatDoorRbE
set_option linter.all false
namespace Go.Mx
noncomputable section
open Go Go.Proofs
variable {s:Str}
set_option maxRecDepth 1000000
def A.b116:=A.q Tryz.f116
def A.k116:=@A.kk 116 25 [.cell 2 (some 2),.cell 3 (some 2)] A.b116 (by kernel_rfl) rfl
def A.b46:=A.q Tryz.f46
def A.k46:=@A.kk 46 96 [.tmp 2] A.b46 (by kernel_rfl) rfl
def Zp9(hk:slashAt s<s.length)(hp:Zb8 (s.take (slashAt s))=true)(hd:Zb8 (s.drop (slashAt s+1))=true)(p1:1≤(s.take (slashAt s)).length)(d1:1≤(s.drop (slashAt s+1)).length)(hl:s.length≤100000){h:T O}{N:Nat}:Fn A.C 116 [.str s] h N (fun v h' n'=>∃x y,v=.tup [.agg [.bool false,x],.agg [.bool false,y]]∧Dn h' n' x (numV (s.take (slashAt s)))∧Dn h' n' y (numV (s.drop (slashAt s+1)))):=by
 intro w
 rw[Zab,A.k116 (by simp)]
 have hsl:=fun st=>Ze3 (s:=s) (st:=st) (by omega)
 have c1:¬((slashAt s:Int)=(s.length:Int)):=by omega
 have c2:¬(slashAt s=s.length):=by omega
 have c3:(slashAt s:Int)≤(s.length:Int):=by omega
 have c4:(slashAt s:Int)+1≤(s.length:Int):=by omega
 have c5:((slashAt s:Int)+1).toNat=slashAt s+1:=by omega
 simp[A.b116,hsl,c1,c3,evOpt]
 refine Zaa (Zlj hp p1 (by simp;omega)) ?_
 rintro v1 h1 n1 k1 ⟨x,rfl,hx⟩
 have nx:¬((numV (s.take (slashAt s)):Nat):Int)<0:=by omega
 simp(disch:=omega) [c5,evOpt,nx]
 refine Zaa (Zlj hd d1 (by simp;omega)) ?_
 rintro v2 h2 n2 k2 ⟨y,rfl,hy⟩
 have ny:¬((numV (s.drop (slashAt s+1)):Nat):Int)<0:=by omega
 have kle1:=k1.le
 have kle2:=k2.le
 have hx:=Dn.keep hx k2
 have r0:=(k2.get N (by omega)).trans (k1.get N (by omega))
 have r1:=(k2.get (N+1) (by omega)).trans (k1.get (N+1) (by omega))
 simp at r0 r1
 have nint:∀u∈([.bool false,.nilslice]:List V),∀k n,u≠V.int k n:=by intro u hu k n;simp at hu;rcases hu with rfl|rfl<;>simp
 have hxo:=(Sl.form hx).one
 have hyo:=(Sl.form hy).one
 unfold V.one at hxo hyo
 have d1':N<n1:=by omega
 have d2':N<n2:=by omega
 have d3':N+1<n2:=by omega
 have d4':¬N+1=N:=by omega
 simp[r0,r1,ny,splice,Zal,hxo,hyo,d1',d2',d3',Zah,slc,Zam.chk,Ret]
 have hx1:=Sl.setInt (i:=N) (c1:=[.bool false,x]) (e1:=144) (w1:=true) hx r0 nint rfl
 have hy1:=Sl.setInt (i:=N) (c1:=[.bool false,x]) (e1:=144) (w1:=true) hy r0 nint rfl
 have r1':(h2.set N (.cells [.bool false,x] 144 true)).get (N+1)=some (.cells [.bool false,.nilslice] 144 true):=by rw[T.get_set,Yqe (by omega)];exact r1
 have hx2:=Sl.setInt (i:=N+1) (c1:=[.bool false,y]) (e1:=144) (w1:=true) hx1 r1' nint rfl
 have hy2:=Sl.setInt (i:=N+1) (c1:=[.bool false,y]) (e1:=144) (w1:=true) hy1 r1' nint rfl
 have k0:=((Keeps.refl (h:=h) (n:=N)).new (.cells [.bool false,.nilslice] 144 true)).new (.cells [.bool false,.nilslice] 144 true)
 exact⟨(((k0.trans k1).trans k2).set (Yqg N)).set (by omega),x,y,⟨rfl,rfl⟩,hx2,hy2⟩
def Zhl{s:Str}(h:Zcu s=true):Zb8 s=true∧1≤s.length:=by
 cases s with
 |nil=>cases h
 |cons c s=>
  unfold Zcu at h
  rw[Yq1]at h
  exact⟨h.1,by simp⟩
def Ymu:ds 1=[1]:=by rw[Zg5 (by decide),Zch];rfl
def Zuo(h:Zb8 s=true)(hl:s.length≤100000):(ds (numV s)).length<1000000000000:=by
 have h1:=Zd4 h
 have h2:(10:Nat)^s.length≤1000000000^s.length:=Ys9 (by decide) _
 have:=Zfl (n:=numV s) (k:=s.length) (by omega)
 omega
def Zwb{s:Str}(hl:s.length<9223372036854775808){h:T O}{N:Nat}:Fn A.C 46 [.str s] h N (fun v _ _=>v=.int .i64 (chkNum s:Nat)):=by
 intro w
 rw[Zab,A.k46 (by simp)]
 cases s with
 |nil=>
  have hsl:=fun st=>Ze3 (s:=[]) (st:=st) (by simp)
  have hdec:=fun st=>Zfm (s:=[]) (st:=st) (by simp)
  simp(disch:=first|(simp;done)|omega|(simp only[Zad,Zae,Yqd];omega)|rfl) [-getElem?_pos,A.b46,hsl,slashAt,evOpt,hdec,Zcu,Ret]
  exact⟨Keeps.refl,rfl⟩
 |cons c t=>
  by_cases h45:u8I c=45
  ·have hneg:chkNum (c::t)=Zj9 true (t.take (slashAt t)) (decide (slashAt t<t.length)) (t.drop (slashAt t+1)):=by
    have:c.toNat=45:=by unfold u8I at h45;omega
    simp[chkNum,Ykv,negS,Zar,this]
   rw[hneg]
   have hfirst:(0:Int)<(t.length:Int)+1:=by omega
   have hone:∀st:St,Zb4 st (some (.str (c::t))) (some (some (.int .i64 1))) (some none)=some (.str t,st):=fun st=>by rw[Zcj (by omega) (by simp only[Yqd];omega)];rfl
   have hsl:=fun st=>Ze3 (s:=t) (st:=st) (by simp at hl;omega)
   have hdec:=fun st=>Zfm (s:=t.take (slashAt t)) (st:=st) (by simp at hl ⊢;omega)
   have hlk:(slashAt t:Int)≤(t.length:Int):=by have:=Zda t;omega
   have hlk2:slashAt t≤t.length:=Zda t
   have hpl:(t.take (slashAt t)).length=slashAt t:=by simp;omega
   have hdl:(t.drop (slashAt t+1)).length=t.length-(slashAt t+1):=by simp
   have hhead:=h45
   have hc0:=h45
   have hbt:=h45
   simp at hl
   generalize hp:t.take (slashAt t)=p at*
   generalize hdq:t.drop (slashAt t+1)=d at*
   by_cases hA:Zcu p=true
   ·by_cases hz:p=[48]
    ·have e1:(p==[48])=true:=by simp[hz]
     simp(disch:=first|(simp;done)|omega|(simp only[Zad,Zae,Yqd];omega)|rfl) [-getElem?_pos,A.b46,hfirst,hone,hsl,hdec,hlk,hlk2,hp,hdq,evOpt,Zak,hhead,hc0,hbt,hA,e1,Ret]
     exact⟨Keeps.refl,by simp[Zj9,Zcb,hz]⟩
    ·have e1:(p==[48])=false:=by simp[hz]
     by_cases hbr:slashAt t<t.length
     ·have hbr':(slashAt t:Int)<(t.length:Int):=by omega
      have hdd:=fun st=>Zfm (s:=d) (st:=st) (by omega)
      by_cases hD:Zcu d=true
      ·by_cases h48:d=[48]
       ·have e8:(d==[48])=true:=by simp[h48]
        simp(disch:=first|(simp;done)|omega|(simp only[Zad,Zae,Yqd];omega)|rfl) [-getElem?_pos,A.b46,hfirst,hone,hsl,hdec,hlk,hlk2,hp,hdq,evOpt,Zak,hhead,hc0,hbt,hA,e1,hbr,hbr',hdd,hD,e8,Ret]
        exact⟨Keeps.refl,by simp[Zj9,Zcb,h48]⟩
       ·have e8:(d==[48])=false:=by simp[h48]
        by_cases h49:d=[49]
        ·have e9:(d==[49])=true:=by simp[h49]
         simp(disch:=first|(simp;done)|omega|(simp only[Zad,Zae,Yqd];omega)|rfl) [-getElem?_pos,A.b46,hfirst,hone,hsl,hdec,hlk,hlk2,hp,hdq,evOpt,Zak,hhead,hc0,hbt,hA,e1,hbr,hbr',hdd,hD,e8,e9,Ret]
         exact⟨Keeps.refl,by simp[Zj9,Zcb,h49]⟩
        ·have e9:(d==[49])=false:=by simp[h49]
         have hform:Zcb true p true d=true:=by simp[Zcb,hA,hD,h48,h49,hz]
         by_cases b6:600<p.length
         ·have b6':(600:Int)<(slashAt t:Int):=by omega
          simp(disch:=first|(simp;done)|omega|(simp only[Zad,Zae,Yqd];omega)|rfl) [-getElem?_pos,A.b46,hfirst,hone,hsl,hdec,hlk,hlk2,hp,hdq,evOpt,Zak,hhead,hc0,hbt,hA,e1,hbr,hbr',hdd,hD,e8,e9,b6',Ret]
          exact⟨Keeps.refl,by simp[Zj9,hform,b6]⟩
         ·have b6':¬(600:Int)<(slashAt t:Int):=by omega
          by_cases b7:600<d.length
          ·have b7':(600:Int)<(t.length:Int)-(slashAt t:Int)-1:=by omega
           simp(disch:=first|(simp;done)|omega|(simp only[Zad,Zae,Yqd];omega)|rfl) [-getElem?_pos,A.b46,hfirst,hone,hsl,hdec,hlk,hlk2,hp,hdq,evOpt,Zak,hhead,hc0,hbt,hA,e1,hbr,hbr',hdd,hD,e8,e9,b6',b7',Ret]
           exact⟨Keeps.refl,by simp[Zj9,hform,b6,b7]⟩
          ·have b7':¬(600:Int)<(t.length:Int)-(slashAt t:Int)-1:=by omega
           obtain⟨pa,pb⟩:=Zhl hA
           obtain⟨da,db⟩:=Zhl hD
           simp(disch:=first|(simp;done)|omega|(simp only[Zad,Zae,Yqd];omega)|rfl) [-getElem?_pos,A.b46,hfirst,hone,hsl,hdec,hlk,hlk2,hp,hdq,evOpt,Zak,hhead,hc0,hbt,hA,e1,hbr,hbr',hdd,hD,e8,e9,b6',b7']
           refine Zaa (Zp9 hbr (by rw[hp];exact pa) (by rw[hdq];exact da) (by rw[hp];exact pb) (by rw[hdq];exact db) (by omega)) ?_
           rintro v1 h1 n1 k1 ⟨x,y,rfl,hx,hy⟩
           rw[hp]at hx
           rw[hdq]at hy
           have hxo:=(Sl.form hx).one
           have hyo:=(Sl.form hy).one
           unfold V.one at hxo hyo
           have kx:=((((Keeps.refl (h:=h1) (n:=n1)).new (.cells [.bool false,.nilslice] 144 true)).new (.cells [.bool false,.nilslice] 144 true)).set (i:=n1) (o:=.cells [.bool false,x] 144 true) (Yqg n1)).set (i:=n1+1) (o:=.cells [.bool false,y] 144 true) (by omega)
           simp(disch:=first|(simp;done)|omega|(simp only[Zad,Zae,Yqd];omega)|rfl) [-getElem?_pos,splice,Zal,hxo,hyo]
           refine Zaa (Zj0 (hx.keep kx) (hy.keep kx) (Zuo pa (by omega)) (Zuo da (by omega))) ?_
           rintro z h2 n2 k2 hz2
           have kk:=(k1.trans kx).trans k2
           have lz:=hz2.len
           rw[Zas]at lz
           have wok:¬n1<N:=by have:=k1.le;omega
           have wok2:¬n1+1<N:=by have:=k1.le;omega
           generalize hG:Nat.gcd (numV p) (numV d)=G at*
           by_cases g1:G=1
           ·subst g1
            rw[Ymu]at lz
            obtain⟨b1,b2,b3,b4,b5,z1,z2,z3,z4⟩:=Sl.at (show Sl h2 n2 z (dI [1]) from Ymu▸hz2) (j:=0) (x:=.int .i64 1) rfl
            simp at z4
            simp(disch:=first|(simp;done)|omega|(simp only[Zad,Zae,Yqd];omega)|rfl) [-getElem?_pos,lz,z1,z3,z4,Zak,Ret,wok,wok2]
            exact⟨kk,by simp[Zj9,hform,b6,b7,hG]⟩
           ·have hres:Zj9 true p true d=1:=by simp[Zj9,hform,b6,b7,hG,g1]
            by_cases g2:(ds G).length=1
            ·obtain⟨gx,hgx⟩:=Zan (l:=ds G) (k:=0) (by omega)
             obtain⟨b1,b2,b3,b4,b5,z1,z2,z3,z4⟩:=Sl.at (show Sl h2 n2 z (dI (ds G)) from hz2) (Zbf hgx)
             simp at z4
             have gne:¬gx=1:=fun hc=>g1 (by
              have hv:=Zbd G
              rw[Zyn hgx,Yrr (by omega)]at hv
              simp[vI,pI]at hv
              omega)
             simp(disch:=first|(simp;done)|omega|(simp only[Zad,Zae,Yqd];omega)|rfl) [-getElem?_pos,lz,g2,z1,z3,z4,gne,Zak,Ret,wok,wok2,hres]
             exact kk
            ·have g2':¬((ds G).length:Int)=1:=by omega
             simp(disch:=first|(simp;done)|omega|(simp only[Zad,Zae,Yqd];omega)|rfl) [-getElem?_pos,lz,g2,g2',Zak,Ret,wok,wok2,hres]
             exact kk
      ·have hD:Zcu d=false:=by simpa using hD
       simp(disch:=first|(simp;done)|omega|(simp only[Zad,Zae,Yqd];omega)|rfl) [-getElem?_pos,A.b46,hfirst,hone,hsl,hdec,hlk,hlk2,hp,hdq,evOpt,Zak,hhead,hc0,hbt,hA,e1,hbr,hbr',hdd,hD,Ret]
       exact⟨Keeps.refl,by simp[Zj9,Zcb,hD]⟩
     ·have hbr2:slashAt t=t.length:=by omega
      have hbr':¬(slashAt t:Int)<(t.length:Int):=by omega
      have hform:Zcb true p false d=true:=by simp[Zcb,hA,hz]
      have dl0:¬600<d.length:=by omega
      have b7':¬(600:Int)<(t.length:Int)-(slashAt t:Int)-1:=by omega
      by_cases b6:600<p.length
      ·have b6':(600:Int)<(slashAt t:Int):=by omega
       simp(disch:=first|(simp;done)|omega|(simp only[Zad,Zae,Yqd];omega)|rfl) [-getElem?_pos,A.b46,hfirst,hone,hsl,hdec,hlk,hlk2,hp,hdq,evOpt,Zak,hhead,hc0,hbt,hA,e1,hbr,hbr',b6',Ret]
       exact⟨Keeps.refl,by simp[Zj9,hform,b6]⟩
      ·have b6':¬(600:Int)<(slashAt t:Int):=by omega
       simp(disch:=first|(simp;done)|omega|(simp only[Zad,Zae,Yqd];omega)|rfl) [-getElem?_pos,A.b46,hfirst,hone,hsl,hdec,hlk,hlk2,hp,hdq,evOpt,Zak,hhead,hc0,hbt,hA,e1,hbr,hbr',b6',b7',Ret]
       exact⟨Keeps.refl,by simp[Zj9,hform,b6,dl0]⟩
   ·have hA:Zcu p=false:=by simpa using hA
    simp(disch:=first|(simp;done)|omega|(simp only[Zad,Zae,Yqd];omega)|rfl) [-getElem?_pos,A.b46,hfirst,hone,hsl,hdec,hlk,hlk2,hp,hdq,evOpt,Zak,hhead,hc0,hbt,hA,Ret]
    exact⟨Keeps.refl,by simp[Zj9,Zcb,hA]⟩
  ·have hsn:negS (c::t)=false:=by
    simp only[negS,decide_eq_false_iff_not];unfold u8I at h45;omega
   obtain⟨t,ht⟩:∃t',t'=c::t:=⟨c::t,rfl⟩
   rw[←ht]at hl hsn ⊢
   have hc0:t[0]?=some c:=by rw[ht];rfl
   have hhead:t.head?=some c:=by rw[ht];rfl
   have hlen:0<t.length:=by rw[ht];simp
   have hbt:t≠[]:=by rw[ht];simp
   have hlen':(0:Int)<(t.length:Int):=by omega
   have hfirst:0<t.length:=hlen
   have hone:True:=trivial
   clear ht
   have hneg:chkNum t=Zj9 false (t.take (slashAt t)) (decide (slashAt t<t.length)) (t.drop (slashAt t+1)):=by
    simp[chkNum,Ykv,Zar,hsn]
   rw[hneg]
   have hsl:=fun st=>Ze3 (s:=t) (st:=st) (by omega)
   have hdec:=fun st=>Zfm (s:=t.take (slashAt t)) (st:=st) (by simp;omega)
   have hlk:(slashAt t:Int)≤(t.length:Int):=by have:=Zda t;omega
   have hlk2:slashAt t≤t.length:=Zda t
   have hpl:(t.take (slashAt t)).length=slashAt t:=by simp;omega
   have hdl:(t.drop (slashAt t+1)).length=t.length-(slashAt t+1):=by simp
   generalize hp:t.take (slashAt t)=p at*
   generalize hdq:t.drop (slashAt t+1)=d at*
   by_cases hA:Zcu p=true
   ·have e1:True:=trivial
    by_cases hbr:slashAt t<t.length
    ·have hbr':(slashAt t:Int)<(t.length:Int):=by omega
     have hdd:=fun st=>Zfm (s:=d) (st:=st) (by omega)
     by_cases hD:Zcu d=true
     ·by_cases h48:d=[48]
      ·have e8:(d==[48])=true:=by simp[h48]
       simp(disch:=first|(simp;done)|omega|(simp only[Zad,Zae,Yqd];omega)|rfl) [-getElem?_pos,A.b46,hfirst,hone,hsl,hdec,hlk,hlk2,hp,hdq,evOpt,Zak,hhead,hc0,hbt,h45,hlen',hA,e1,hbr,hbr',hdd,hD,e8,Ret]
       exact⟨Keeps.refl,by simp[Zj9,Zcb,h48]⟩
      ·have e8:(d==[48])=false:=by simp[h48]
       by_cases h49:d=[49]
       ·have e9:(d==[49])=true:=by simp[h49]
        simp(disch:=first|(simp;done)|omega|(simp only[Zad,Zae,Yqd];omega)|rfl) [-getElem?_pos,A.b46,hfirst,hone,hsl,hdec,hlk,hlk2,hp,hdq,evOpt,Zak,hhead,hc0,hbt,h45,hlen',hA,e1,hbr,hbr',hdd,hD,e8,e9,Ret]
        exact⟨Keeps.refl,by simp[Zj9,Zcb,h49]⟩
       ·have e9:(d==[49])=false:=by simp[h49]
        have hform:Zcb false p true d=true:=by simp[Zcb,hA,hD,h48,h49]
        by_cases b6:600<p.length
        ·have b6':(600:Int)<(slashAt t:Int):=by omega
         simp(disch:=first|(simp;done)|omega|(simp only[Zad,Zae,Yqd];omega)|rfl) [-getElem?_pos,A.b46,hfirst,hone,hsl,hdec,hlk,hlk2,hp,hdq,evOpt,Zak,hhead,hc0,hbt,h45,hlen',hA,e1,hbr,hbr',hdd,hD,e8,e9,b6',Ret]
         exact⟨Keeps.refl,by simp[Zj9,hform,b6]⟩
        ·have b6':¬(600:Int)<(slashAt t:Int):=by omega
         by_cases b7:600<d.length
         ·have b7':(600:Int)<(t.length:Int)-(slashAt t:Int)-1:=by omega
          simp(disch:=first|(simp;done)|omega|(simp only[Zad,Zae,Yqd];omega)|rfl) [-getElem?_pos,A.b46,hfirst,hone,hsl,hdec,hlk,hlk2,hp,hdq,evOpt,Zak,hhead,hc0,hbt,h45,hlen',hA,e1,hbr,hbr',hdd,hD,e8,e9,b6',b7',Ret]
          exact⟨Keeps.refl,by simp[Zj9,hform,b6,b7]⟩
         ·have b7':¬(600:Int)<(t.length:Int)-(slashAt t:Int)-1:=by omega
          obtain⟨pa,pb⟩:=Zhl hA
          obtain⟨da,db⟩:=Zhl hD
          simp(disch:=first|(simp;done)|omega|(simp only[Zad,Zae,Yqd];omega)|rfl) [-getElem?_pos,A.b46,hfirst,hone,hsl,hdec,hlk,hlk2,hp,hdq,evOpt,Zak,hhead,hc0,hbt,h45,hlen',hA,e1,hbr,hbr',hdd,hD,e8,e9,b6',b7']
          refine Zaa (Zp9 hbr (by rw[hp];exact pa) (by rw[hdq];exact da) (by rw[hp];exact pb) (by rw[hdq];exact db) (by omega)) ?_
          rintro v1 h1 n1 k1 ⟨x,y,rfl,hx,hy⟩
          rw[hp]at hx
          rw[hdq]at hy
          have hxo:=(Sl.form hx).one
          have hyo:=(Sl.form hy).one
          unfold V.one at hxo hyo
          have kx:=((((Keeps.refl (h:=h1) (n:=n1)).new (.cells [.bool false,.nilslice] 144 true)).new (.cells [.bool false,.nilslice] 144 true)).set (i:=n1) (o:=.cells [.bool false,x] 144 true) (Yqg n1)).set (i:=n1+1) (o:=.cells [.bool false,y] 144 true) (by omega)
          simp(disch:=first|(simp;done)|omega|(simp only[Zad,Zae,Yqd];omega)|rfl) [-getElem?_pos,splice,Zal,hxo,hyo]
          refine Zaa (Zj0 (hx.keep kx) (hy.keep kx) (Zuo pa (by omega)) (Zuo da (by omega))) ?_
          rintro z h2 n2 k2 hz2
          have kk:=(k1.trans kx).trans k2
          have lz:=hz2.len
          rw[Zas]at lz
          have wok:¬n1<N:=by have:=k1.le;omega
          have wok2:¬n1+1<N:=by have:=k1.le;omega
          generalize hG:Nat.gcd (numV p) (numV d)=G at*
          by_cases g1:G=1
          ·subst g1
           rw[Ymu]at lz
           obtain⟨b1,b2,b3,b4,b5,z1,z2,z3,z4⟩:=Sl.at (show Sl h2 n2 z (dI [1]) from Ymu▸hz2) (j:=0) (x:=.int .i64 1) rfl
           simp at z4
           simp(disch:=first|(simp;done)|omega|(simp only[Zad,Zae,Yqd];omega)|rfl) [-getElem?_pos,lz,z1,z3,z4,Zak,Ret,wok,wok2]
           exact⟨kk,by simp[Zj9,hform,b6,b7,hG]⟩
          ·have hres:Zj9 false p true d=1:=by simp[Zj9,hform,b6,b7,hG,g1]
           by_cases g2:(ds G).length=1
           ·obtain⟨gx,hgx⟩:=Zan (l:=ds G) (k:=0) (by omega)
            obtain⟨b1,b2,b3,b4,b5,z1,z2,z3,z4⟩:=Sl.at (show Sl h2 n2 z (dI (ds G)) from hz2) (Zbf hgx)
            simp at z4
            have gne:¬gx=1:=fun hc=>g1 (by
             have hv:=Zbd G
             rw[Zyn hgx,Yrr (by omega)]at hv
             simp[vI,pI]at hv
             omega)
            simp(disch:=first|(simp;done)|omega|(simp only[Zad,Zae,Yqd];omega)|rfl) [-getElem?_pos,lz,g2,z1,z3,z4,gne,Zak,Ret,wok,wok2,hres]
            exact kk
           ·have g2':¬((ds G).length:Int)=1:=by omega
            simp(disch:=first|(simp;done)|omega|(simp only[Zad,Zae,Yqd];omega)|rfl) [-getElem?_pos,lz,g2,g2',Zak,Ret,wok,wok2,hres]
            exact kk
     ·have hD:Zcu d=false:=by simpa using hD
      simp(disch:=first|(simp;done)|omega|(simp only[Zad,Zae,Yqd];omega)|rfl) [-getElem?_pos,A.b46,hfirst,hone,hsl,hdec,hlk,hlk2,hp,hdq,evOpt,Zak,hhead,hc0,hbt,h45,hlen',hA,e1,hbr,hbr',hdd,hD,Ret]
      exact⟨Keeps.refl,by simp[Zj9,Zcb,hD]⟩
    ·have hbr2:slashAt t=t.length:=by omega
     have hbr':¬(slashAt t:Int)<(t.length:Int):=by omega
     have hform:Zcb false p false d=true:=by simp[Zcb,hA]
     have dl0:¬600<d.length:=by omega
     have b7':¬(600:Int)<(t.length:Int)-(slashAt t:Int)-1:=by omega
     by_cases b6:600<p.length
     ·have b6':(600:Int)<(slashAt t:Int):=by omega
      simp(disch:=first|(simp;done)|omega|(simp only[Zad,Zae,Yqd];omega)|rfl) [-getElem?_pos,A.b46,hfirst,hone,hsl,hdec,hlk,hlk2,hp,hdq,evOpt,Zak,hhead,hc0,hbt,h45,hlen',hA,e1,hbr,hbr',b6',Ret]
      exact⟨Keeps.refl,by simp[Zj9,hform,b6]⟩
     ·have b6':¬(600:Int)<(slashAt t:Int):=by omega
      simp(disch:=first|(simp;done)|omega|(simp only[Zad,Zae,Yqd];omega)|rfl) [-getElem?_pos,A.b46,hfirst,hone,hsl,hdec,hlk,hlk2,hp,hdq,evOpt,Zak,hhead,hc0,hbt,h45,hlen',hA,e1,hbr,hbr',b6',b7',Ret]
      exact⟨Keeps.refl,by simp[Zj9,hform,b6,dl0]⟩
   ·have hA:Zcu p=false:=by simpa using hA
    simp(disch:=first|(simp;done)|omega|(simp only[Zad,Zae,Yqd];omega)|rfl) [-getElem?_pos,A.b46,hfirst,hone,hsl,hdec,hlk,hlk2,hp,hdq,evOpt,Zak,hhead,hc0,hbt,h45,hlen',hA,Ret]
    exact⟨Keeps.refl,by simp[Zj9,Zcb,hA]⟩
def Yvj(hl:s.length≤100000){h:T O}{N:Nat}:Fn A.C 46 [.str s] h N (fun v _ _=>v=.int .i64 (chkNum s:Nat)):=Zwb (by omega)
variable {N:Nat} {a b:Int} {h:T O} {x y:V}
def A.b159:=A.q Tryz.f159
def A.k159:=@A.kk 159 57 [.tmp 4] A.b159 (by kernel_rfl) rfl
def Zq9(hb:0<b):b.natAbs/Nat.gcd a.natAbs b.natAbs=(Rat.divInt a b).den:=by
 have h:((Rat.divInt a b).den:Int)=((b.natAbs/Nat.gcd a.natAbs b.natAbs:Nat):Int):=by
  rw[Rat.den_divInt,Yqe (by omega),Int.gcd_comm]
  rfl
 exact(Int.ofNat_inj.1 h).symm
def Zmu(hb:0<b):(if decide (a<0)=true then -((a.natAbs/Nat.gcd a.natAbs b.natAbs:Nat):Int) else ((a.natAbs/Nat.gcd a.natAbs b.natAbs:Nat):Int))=(Rat.divInt a b).num:=by
 rw[Rat.num_divInt,Int.sign_eq_one_of_pos hb,Int.one_mul,Int.gcd_comm]
 have hd:((Int.gcd a b:Nat):Int)∣a:=Int.gcd_dvd_left ..
 have he:Nat.gcd a.natAbs b.natAbs=Int.gcd a b:=rfl
 rw[he,Int.natCast_ediv]
 by_cases ha:a<0
 ·have h1:(a.natAbs:Int)= -a:=by omega
  simp only[ha,decide_true,if_true,h1]
  rw[Int.neg_ediv_of_dvd hd,Int.neg_neg]
 ·have h1:(a.natAbs:Int)=a:=by omega
  simp[ha,h1]
def Yb4{z:Int}:(decI z).length≤9*(ds z.natAbs).length+2:=by
 have:=Zm1 (n:=z.natAbs)
 unfold decI
 split<;>simp<;>omega
def Ygr{m e:Nat}(h0:0<m)(he:m%1000000000=e):m=1↔(ds m).length=1∧e=1:=by
 constructor
 ·rintro rfl
  exact⟨by have:=Ygq (r:=1) (by omega);rw[←this];decide,by omega⟩
 ·rintro⟨h1,h2⟩
  have h3:=Zh8 (Zb9 m)
  rw[Zbd,h1,Zo2,Nat.pow_one]at h3
  omega
def Zq7(hx:Rg h N x a)(hy:Rg h N y b)(hb:0<b)(l3:(ds a.natAbs).length<100000000000)(l4:(ds b.natAbs).length<100000000000):Fn A.C 159 [x,y] h N (fun u _ _=>u=.str (Zaq (Rat.divInt a b))):=by
 intro w
 obtain⟨u,rfl,hu0⟩:=hx
 obtain⟨v,rfl,hv0⟩:=hy
 have o1:=Sl.form hu0 |>.one
 have o2:=Sl.form hu0 |>.cells
 have o3:=Sl.form hv0 |>.one
 have o4:=Sl.form hv0 |>.cells
 unfold V.one at o1 o3
 unfold V.cells at o2 o4
 have l1:(ds a.natAbs).length<1000000000000:=by omega
 have l2:(ds b.natAbs).length<1000000000000:=by omega
 have hb':¬b<0:=by omega
 rw[show decide (b<0)=false by simp[hb']]
 have kB:=(((Keeps.refl (h:=h) (n:=N)).new (.cells [.bool (decide (a<0)),u] 144 true)).new (.cells [.bool false,v] 144 true))
 have hu:=Sl.keep hu0 kB
 have hv:=Sl.keep hv0 kB
 rw[Zab,A.k159 (by simp)]
 simp[A.b159,o1,o3,Zah]
 generalize hB:(h.set N (.cells [.bool (decide (a<0)),u] 144 true)).set (N+1) (.cells [.bool false,v] 144 true)=HB at*
 have gN:HB.get N=some (.cells [.bool (decide (a<0)),u] 144 true):=by rw[←hB];simp
 have gM:HB.get (N+1)=some (.cells [.bool false,v] 144 true):=by rw[←hB];simp
 refine Zaa (Zj0 hu hv l1 l2) ?_
 rintro v1 h1 n1 k1 q1
 have gN1:=(k1.get N (by omega)).trans gN
 have gM1:=(k1.get (N+1) (by omega)).trans gM
 have hg0:0<Nat.gcd a.natAbs b.natAbs:=Ytv _ (by omega)
 have lg:(ds (Nat.gcd a.natAbs b.natAbs)).length<1000000000000:=Yra (Zcn (Nat.gcd_le_right _ (by omega))) l2
 have le1:=k1.le
 simp[gN1,Zah]
 refine Zaa (Zl7 (hu.keep k1) q1 hg0 l1 lg) ?_
 rintro _ h2 n2 k2 ⟨q,r1,rfl,q2, -⟩
 have gM2:=(k2.get (N+1) (by omega)).trans gM1
 have le2:=k2.le
 simp[gM2,Zah]
 refine Zaa (Zl7 ((hv.keep k1).keep k2) (q1.keep k2) hg0 l2 lg) ?_
 rintro _ h3 n3 k3 ⟨d,r2,rfl,q3, -⟩
 have gN3:=(k3.get N (by omega)).trans ((k2.get N (by omega)).trans gN1)
 have le3:=k3.le
 rw[Zq9 hb]at q3
 have lq:(ds (a.natAbs/Nat.gcd a.natAbs b.natAbs)).length<100000000000:=Yra (Zcn (Yrz _ _)) l3
 have ld3:(ds (Rat.divInt a b).den).length<100000000000:=by rw[←Zq9 hb];exact Yra (Zcn (Yrz _ _)) l4
 simp[gN3,Zah]
 refine Zaa (Zby (n:=a.natAbs/Nat.gcd a.natAbs b.natAbs) (q2.keep k3) (Zb9 _) (Zbd _) (by omega)) ?_
 rintro v4 h4 n4 k4 q4
 have le4:=k4.le
 rw[Zmu hb]at q4
 simp[]
 refine Zaa (Zhh q4 (by rw[←Zmu hb];split<;>(first|rw[Ys3,Yqk]|rw[Yqk])<;>exact lq)) ?_
 rintro _ h5 n5 k5 rfl
 have le5:=k5.le
 obtain⟨m,hm⟩:∃m,(Rat.divInt a b).den=m:=⟨_,rfl⟩
 have hm0:0<m:=by rw[←hm];exact Rat.den_pos _
 rw[hm]at q3 ld3
 have hsl:=Yb4 (z:=(Rat.divInt a b).num)
 have hnl:(ds (Rat.divInt a b).num.natAbs).length<100000000000:=by rw[←Zmu hb];split<;>(first|rw[Ys3,Yqk]|rw[Yqk])<;>exact lq
 have htx:Zaq (Rat.divInt a b)=if m=1 then decI (Rat.divInt a b).num else decI (Rat.divInt a b).num++47::decN m:=by unfold Zaq;rw[hm]
 rw[htx]
 generalize decI (Rat.divInt a b).num=s at*
 have hd5:Dn h5 n5 d m:=(q3.keep k4).keep k5
 have ld:=Sl.len hd5
 rw[Zas]at ld
 have hpos:(ds m).length≠0:=fun hc=>(by omega:m≠0) (Zdo.1 (Yqw hc))
 have hg:=Zvb (i:=0) (n:=m) (by omega)
 rw[Ytj,Nat.div_one]at hg
 obtain⟨e,he⟩:∃e,m%1000000000=e:=⟨_,rfl⟩
 rw[he]at hg
 have hd1:m=1↔(ds m).length=1∧e=1:=Ygr hm0 he
 obtain⟨i,o,c,te,rw_,p1,p2,p3,p4⟩:=Sl.at hd5 (Zbf hg)
 rw[Ysh]at p4
 obtain⟨L,hL⟩:∃L,(ds m).length=L:=⟨_,rfl⟩
 rw[hL]at ld hd1
 have hdl:=Zm1 (n:=m)
 rw[hL]at hdl ld3
 have hmx:IntKind.max .i64=9223372036854775807:=rfl
 have b1:¬(9223372036854775807:Int)<(s.length:Int)+1:=by omega
 have b2:¬(9223372036854775807:Int)<(s.length:Int)+1+((decN m).length:Int):=by omega
 have hdm:decI (m:Int)=decN m:=by unfold decI;rw[Yqe (by omega),Yqk]
 have hldm:(ds m).length<1152921504606846976:=by omega
 have K5:Keeps h N h5 n5:=((((kB.trans k1).trans k2).trans k3).trans k4).trans k5
 by_cases hm1:m=1
 ·obtain⟨rfl,rfl⟩:=hd1.1 hm1
  rw[Yqi hm1]
  clear hsl hnl hdl b1 b2 hldm ld3
  simp[ld,p1,p3,p4,Ret]
  exact K5
 ·rw[Yqe hm1]
  by_cases hL1:L=1
  ·have he1:¬e=1:=fun hc=>hm1 (hd1.2 ⟨hL1,hc⟩)
   have he2:¬(e:Int)=1:=by omega
   subst hL1
   clear hsl hnl hdl
   simp[ld,p1,p3,p4,he2,Zbk,hmx,b1]
   refine Zaa (Zby (b:=false) (n:=m) hd5 (Zb9 _) (Zbd _) hldm) ?_
   rintro v6 h6 n6 k6 q6
   have q7:Rg h6 n6 v6 (m:Int):=by simpa using q6
   simp[]
   refine Zaa (Zhh q7 (by rw[Yqk,hL];exact ld3)) ?_
   rintro _ h7 n7 k7 rfl
   rw[hdm]
   simp[Zbk,hmx,b2,Ret]
   exact(K5.trans k6).trans k7
  ·have hL2:¬(L:Int)=1:=by omega
   clear hsl hnl hdl
   simp[ld,hL2,Zbk,hmx,b1]
   refine Zaa (Zby (b:=false) (n:=m) hd5 (Zb9 _) (Zbd _) hldm) ?_
   rintro v6 h6 n6 k6 q6
   have q7:Rg h6 n6 v6 (m:Int):=by simpa using q6
   simp[]
   refine Zaa (Zhh q7 (by rw[Yqk,hL];exact ld3)) ?_
   rintro _ h7 n7 k7 rfl
   rw[hdm]
   simp[Zbk,hmx,b2,Ret]
   exact(K5.trans k6).trans k7
def Zq8{P Q:Int}(hx:Rg h N x P)(hy:Rg h N y Q)(hB0:Q<0)(l3:(ds P.natAbs).length<100000000000)(l4:(ds Q.natAbs).length<100000000000):Fn A.C 159 [x,y] h N (fun u _ _=>u=.str (Zaq (Rat.divInt P Q))):=by
 intro w
 obtain⟨u0,rfl,hu0⟩:=hx
 obtain⟨v0,rfl,hv0⟩:=hy
 have o1:=Sl.form hu0 |>.one
 have o2:=Sl.form hu0 |>.cells
 have o3:=Sl.form hv0 |>.one
 have o4:=Sl.form hv0 |>.cells
 unfold V.one at o1 o3
 unfold V.cells at o2 o4
 have hx0:Rg h N (.agg [.bool (decide (P<0)),u0]) P:=⟨u0,rfl,hu0⟩
 have hy0:Rg h N (.agg [.bool true,v0]) Q:=⟨v0,by simp[hB0],hv0⟩
 rw[show decide (Q<0)=true by simp[hB0]]
 have kA:=(((Keeps.refl (h:=h) (n:=N)).new (.cells [.bool (decide (P<0)),u0] 144 true)).new (.cells [.bool true,v0] 144 true))
 rw[Zab,A.k159 (by simp)]
 simp[A.b159,o1,o3,Zah,slc]
 generalize hA:(h.set N (.cells [.bool (decide (P<0)),u0] 144 true)).set (N+1) (.cells [.bool true,v0] 144 true)=HA at*
 have gN0:HA.get N=some (.cells [.bool (decide (P<0)),u0] 144 true):=by rw[←hA];simp
 have gM0:HA.get (N+1)=some (.cells [.bool true,v0] 144 true):=by rw[←hA];simp
 refine Zaa (Zuu (hx0.keep kA) (by omega)) ?_
 rintro _ m1 t1 j1 q1
 obtain⟨a,ha⟩:∃a,a= -P:=⟨_,rfl⟩
 rw[←ha]at q1
 obtain⟨u,rfl,hu1⟩:=q1
 have i1:=j1.le
 have gN1:=(j1.get N (by omega)).trans gN0
 have gM1:=(j1.get (N+1) (by omega)).trans gM0
 simp[gM1,Zah,slc]
 refine Zaa (Zuu ((hy0.keep kA).keep j1) (by omega)) ?_
 rintro _ m2 t2 j2 q2
 obtain⟨b,hb0⟩:∃b,b= -Q:=⟨_,rfl⟩
 rw[←hb0]at q2
 have hb:0<b:=by omega
 obtain⟨v,rfl,hv2⟩:=q2
 rw[show decide (b<0)=false by simp;omega]
 have hab:Rat.divInt P Q=Rat.divInt a b:=by rw[ha,hb0];exact(Rat.neg_divInt_neg P Q).symm
 rw[hab]
 have n1:=Ylm (b:=decide (P<0)) (Sl.form hu0)
 have n2:=Ylm (b:=true) (Sl.form hv0)
 have i2:=j2.le
 have gN2:=(j2.get N (by omega)).trans gN1
 have gM2:=(j2.get (N+1) (by omega)).trans gM1
 have s1:=Sl.form hu1 |>.one
 have s2:=Sl.form hu1 |>.cells
 have s3:=Sl.form hv2 |>.one
 have s4:=Sl.form hv2 |>.cells
 unfold V.one at s1 s3
 unfold V.cells at s2 s4
 have g1:N+1<t1:=by omega
 have g2:N+1<t2:=by omega
 have g3:N<t2:=by omega
 simp[gN2,gM2,s1,s3,splice,Zal,Zah,Zam.chk,g1,g2,g3]
 have gM3:(m2.set N (.cells [.bool (decide (a<0)),u] 144 true)).get (N+1)=some (.cells [.bool true,v0] 144 true):=by rw[T.get_set,Yqe (by omega)];exact gM2
 have kB:=((((kA.trans j1).trans j2).set (i:=N) (o:=.cells [.bool (decide (a<0)),u] 144 true) (by omega))).set (i:=N+1) (o:=.cells [.bool false,v] 144 true) (by omega)
 have hu:=Sl.setInt (Sl.setInt (hu1.keep j2) gN2 n1 (c1:=[.bool (decide (a<0)),u]) (e1:=144) (w1:=true) rfl) gM3 n2 (c1:=[.bool false,v]) (e1:=144) (w1:=true) rfl
 have hv:=Sl.setInt (Sl.setInt hv2 gN2 n1 (c1:=[.bool (decide (a<0)),u]) (e1:=144) (w1:=true) rfl) gM3 n2 (c1:=[.bool false,v]) (e1:=144) (w1:=true) rfl
 generalize hB:(m2.set N (.cells [.bool (decide (a<0)),u] 144 true)).set (N+1) (.cells [.bool false,v] 144 true)=HB at*
 have gN:HB.get N=some (.cells [.bool (decide (a<0)),u] 144 true):=by rw[←hB];simp
 have gM:HB.get (N+1)=some (.cells [.bool false,v] 144 true):=by rw[←hB];simp
 have ea:a.natAbs=P.natAbs:=by omega
 have eb:b.natAbs=Q.natAbs:=by omega
 rw[←ea]at l3
 rw[←eb]at l4
 have l1:(ds a.natAbs).length<1000000000000:=by omega
 have l2:(ds b.natAbs).length<1000000000000:=by omega
 clear o1 o2 o3 o4
 have o1:=s1
 have o2:=s2
 have o3:=s3
 have o4:=s4
 clear s1 s2 s3 s4 gM3 gN2 gM2 gN1 gM1 gN0 gM0 n1 n2 hA hab
 refine Zaa (Zj0 hu hv l1 l2) ?_
 rintro v1 h1 n1 k1 q1
 have gN1:=(k1.get N (by omega)).trans gN
 have gM1:=(k1.get (N+1) (by omega)).trans gM
 have hg0:0<Nat.gcd a.natAbs b.natAbs:=Ytv _ (by omega)
 have lg:(ds (Nat.gcd a.natAbs b.natAbs)).length<1000000000000:=Yra (Zcn (Nat.gcd_le_right _ (by omega))) l2
 have le1:=k1.le
 simp[gN1,Zah]
 refine Zaa (Zl7 (hu.keep k1) q1 hg0 l1 lg) ?_
 rintro _ h2 n2 k2 ⟨q,r1,rfl,q2, -⟩
 have gM2:=(k2.get (N+1) (by omega)).trans gM1
 have le2:=k2.le
 simp[gM2,Zah]
 refine Zaa (Zl7 ((hv.keep k1).keep k2) (q1.keep k2) hg0 l2 lg) ?_
 rintro _ h3 n3 k3 ⟨d,r2,rfl,q3, -⟩
 have gN3:=(k3.get N (by omega)).trans ((k2.get N (by omega)).trans gN1)
 have le3:=k3.le
 rw[Zq9 hb]at q3
 have lq:(ds (a.natAbs/Nat.gcd a.natAbs b.natAbs)).length<100000000000:=Yra (Zcn (Yrz _ _)) l3
 have ld3:(ds (Rat.divInt a b).den).length<100000000000:=by rw[←Zq9 hb];exact Yra (Zcn (Yrz _ _)) l4
 simp[gN3,Zah]
 refine Zaa (Zby (n:=a.natAbs/Nat.gcd a.natAbs b.natAbs) (q2.keep k3) (Zb9 _) (Zbd _) (by omega)) ?_
 rintro v4 h4 n4 k4 q4
 have le4:=k4.le
 rw[Zmu hb]at q4
 simp[]
 refine Zaa (Zhh q4 (by rw[←Zmu hb];split<;>(first|rw[Ys3,Yqk]|rw[Yqk])<;>exact lq)) ?_
 rintro _ h5 n5 k5 rfl
 have le5:=k5.le
 obtain⟨m,hm⟩:∃m,(Rat.divInt a b).den=m:=⟨_,rfl⟩
 have hm0:0<m:=by rw[←hm];exact Rat.den_pos _
 rw[hm]at q3 ld3
 have hsl:=Yb4 (z:=(Rat.divInt a b).num)
 have hnl:(ds (Rat.divInt a b).num.natAbs).length<100000000000:=by rw[←Zmu hb];split<;>(first|rw[Ys3,Yqk]|rw[Yqk])<;>exact lq
 have htx:Zaq (Rat.divInt a b)=if m=1 then decI (Rat.divInt a b).num else decI (Rat.divInt a b).num++47::decN m:=by unfold Zaq;rw[hm]
 rw[htx]
 generalize decI (Rat.divInt a b).num=s at*
 have hd5:Dn h5 n5 d m:=(q3.keep k4).keep k5
 have ld:=Sl.len hd5
 rw[Zas]at ld
 have hpos:(ds m).length≠0:=fun hc=>(by omega:m≠0) (Zdo.1 (Yqw hc))
 have hg:=Zvb (i:=0) (n:=m) (by omega)
 rw[Ytj,Nat.div_one]at hg
 obtain⟨e,he⟩:∃e,m%1000000000=e:=⟨_,rfl⟩
 rw[he]at hg
 have hd1:m=1↔(ds m).length=1∧e=1:=Ygr hm0 he
 obtain⟨i,o,c,te,rw_,p1,p2,p3,p4⟩:=Sl.at hd5 (Zbf hg)
 rw[Ysh]at p4
 obtain⟨L,hL⟩:∃L,(ds m).length=L:=⟨_,rfl⟩
 rw[hL]at ld hd1
 have hdl:=Zm1 (n:=m)
 rw[hL]at hdl ld3
 have hmx:IntKind.max .i64=9223372036854775807:=rfl
 have b1:¬(9223372036854775807:Int)<(s.length:Int)+1:=by omega
 have b2:¬(9223372036854775807:Int)<(s.length:Int)+1+((decN m).length:Int):=by omega
 have hdm:decI (m:Int)=decN m:=by unfold decI;rw[Yqe (by omega),Yqk]
 have hldm:(ds m).length<1152921504606846976:=by omega
 have K5:Keeps h N h5 n5:=((((kB.trans k1).trans k2).trans k3).trans k4).trans k5
 by_cases hm1:m=1
 ·obtain⟨rfl,rfl⟩:=hd1.1 hm1
  rw[Yqi hm1]
  clear hsl hnl hdl b1 b2 hldm ld3
  simp[ld,p1,p3,p4,Ret]
  exact K5
 ·rw[Yqe hm1]
  by_cases hL1:L=1
  ·have he1:¬e=1:=fun hc=>hm1 (hd1.2 ⟨hL1,hc⟩)
   have he2:¬(e:Int)=1:=by omega
   subst hL1
   clear hsl hnl hdl
   simp[ld,p1,p3,p4,he2,Zbk,hmx,b1]
   refine Zaa (Zby (b:=false) (n:=m) hd5 (Zb9 _) (Zbd _) hldm) ?_
   rintro v6 h6 n6 k6 q6
   have q7:Rg h6 n6 v6 (m:Int):=by simpa using q6
   simp[]
   refine Zaa (Zhh q7 (by rw[Yqk,hL];exact ld3)) ?_
   rintro _ h7 n7 k7 rfl
   rw[hdm]
   simp[Zbk,hmx,b2,Ret]
   exact(K5.trans k6).trans k7
  ·have hL2:¬(L:Int)=1:=by omega
   clear hsl hnl hdl
   simp[ld,hL2,Zbk,hmx,b1]
   refine Zaa (Zby (b:=false) (n:=m) hd5 (Zb9 _) (Zbd _) hldm) ?_
   rintro v6 h6 n6 k6 q6
   have q7:Rg h6 n6 v6 (m:Int):=by simpa using q6
   simp[]
   refine Zaa (Zhh q7 (by rw[Yqk,hL];exact ld3)) ?_
   rintro _ h7 n7 k7 rfl
   rw[hdm]
   simp[Zbk,hmx,b2,Ret]
   exact(K5.trans k6).trans k7
def Zin(hx:Rg h N x a)(hy:Rg h N y b)(hb:b≠0)(l3:(ds a.natAbs).length<100000000000)(l4:(ds b.natAbs).length<100000000000):Fn A.C 159 [x,y] h N (fun u _ _=>u=.str (Zaq (Rat.divInt a b))):=by
 rcases Int.lt_or_gt_of_ne hb with hb|hb
 ·exact Zq8 hx hy hb l3 l4
 ·exact Zq7 hx hy hb l3 l4
def A.w212:=A.q Tryz.f212
def A.lb212_0:=A.ql A.w212 0 []
def A.b212:=(fun x0=>A.qb A.w212 [x0]) A.lb212_0
def A.k212:=@A.kk 212 12 [.tmp 4] A.b212 (by kernel_rfl) rfl
def Ybe{a b:Nat}{st:St}(ha:a<9223372036854775808)(hb:b<9223372036854775808):A.C.call (.func 212 [] []) [.int .i64 a,.int .i64 b] st=some (.int .i64 (Nat.gcd a b:Nat),st):=by
 apply Call.eq
 rw[Zab,A.k212 (by simp)]
 simp[A.b212]
 refine Zaj [(0,1),(5,10)] (fun e r s1=>s1=⟨st.h,st.n,[]⟩∧e=.exit 0∧r.get 0=some (.int .i64 (Nat.gcd a b:Nat))) (fun q r s1=>s1=⟨st.h,st.n,[]⟩∧q<9223372036854775808∧r.get 1=some (.int .i64 q)∧∃k:Nat,k<9223372036854775808∧r.get 0=some (.int .i64 k)∧Nat.gcd k q=Nat.gcd a b) b ?_ ?_ ?_
 ·exact⟨rfl,hb,by simp,a,ha,by simp,rfl⟩
 ·rintro q r _ hr hf ⟨rfl,hq,h1,k,hk,h0,hg⟩
  rw[Zai]
  by_cases hz:q=0
  ·subst hz
   rw[Nat.gcd_zero_right]at hg
   simp[A.lb212_0,hf,h0,h1,hg]
  ·have i1:(0:Int)<(q:Int):=by omega
   have i2:0<q:=by omega
   have i3:¬(q:Int)=0:=by omega
   have t1:(k:Int).tmod q=((k%q:Nat):Int):=by rw[Yr3 (by omega)];omega
   have t2:Zao .i64 ((k%q:Nat):Int)=((k%q:Nat):Int):=Zag (by omega) (by have:=Yri k i2;omega)
   have hlt:=Yri k i2
   simp[A.lb212_0,hf,h0,h1,i2,hz,t1,Zam.chk]
   exact⟨k%q,hlt,by omega,by simp,q,hq,rfl,by rw[←hg,Nat.gcd_comm k q,Nat.gcd_rec q k,Nat.gcd_comm]⟩
 ·rintro _ r _ hr ⟨rfl,rfl,h0⟩
  simp[h0]
end
end Go.Mx
