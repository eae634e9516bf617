/-lensletref01-/
import Derived.Test.YtgnadghjglamaaaGreatDoorRbE
set_option linter.all false
namespace Go.Mx
noncomputable section
open Go Go.Proofs
variable {s:Str}
set_option maxRecDepth 1000000
def A.b64:=A.q Tryz.f64
def A.k64:=@A.kk 64 25 [.cell 2 (some 2),.cell 3 (some 2)] A.b64 (by kernel_rfl) rfl
def A.b49:=A.q Tryz.f49
def A.k49:=@A.kk 49 96 [.tmp 2] A.b49 (by kernel_rfl) rfl
def Zqq(hk:slashAt s<s.length)(hp:Zb7 (s.take (slashAt s))=true)(hd:Zb7 (s.drop (slashAt s+1))=true)(p1:1≤(s.take (slashAt s)).length)(d1:1≤(s.drop (slashAt s+1)).length)(hl:s.length≤100000){h:T O}{N:Nat}:Fn A.C 64 [.str s] h N (fun v h' n'=>∃x y,v=.tup [.agg [.bool false,x],.agg [.bool false,y]]∧Dn h' n' x (numV (s.take (slashAt s)))∧Dn h' n' y (numV (s.drop (slashAt s+1)))):=by
 intro w
 rw[Zaf,A.k64 (by simp)]
 have hsl:=fun st=>Ze8 (s:=s) (st:=st) (by omega)
 have c1:¬((slashAt s:Int)=(s.length:Int)):=by omega
 have c2:¬(slashAt s=s.length):=by omega
 have c3:(slashAt s:Int)≤(s.length:Int):=by omega
 have c4:(slashAt s:Int)+1≤(s.length:Int):=by omega
 have c5:((slashAt s:Int)+1).toNat=slashAt s+1:=by omega
 simp(disch:=first|(simp;done)|omega|(simp only[Zab,Zaa,Yrr];omega)|rfl) [-getElem?_pos,A.b64,hsl,c1,c2,c3,c4,c5,Zag,evOpt]
 refine Zac (Zlx hp p1 (by simp;omega)) ?_
 rintro v1 h1 n1 k1 ⟨x,rfl,hx⟩
 have nx:¬((numV (s.take (slashAt s)):Nat):Int)<0:=by omega
 simp(disch:=first|(simp;done)|omega|(simp only[Zab,Zaa,Yrr];omega)|rfl) [-getElem?_pos,hsl,c1,c2,c3,c4,c5,Zag,evOpt,nx]
 refine Zac (Zlx hd d1 (by simp;omega)) ?_
 rintro v2 h2 n2 k2 ⟨y,rfl,hy⟩
 have ny:¬((numV (s.drop (slashAt s+1)):Nat):Int)<0:=by omega
 have kle1:=k1.le
 have kle2:=k2.le
 have hx:=Dn.keep hx k2
 have r0:=(k2.get N (by omega)).trans (k1.get N (by omega))
 have r1:=(k2.get (N+1) (by omega)).trans (k1.get (N+1) (by omega))
 simp at r0 r1
 have nint:∀u∈([.bool false,.nilslice]:List V),∀k n,u≠V.int k n:=by intro u hu k n;simp at hu;rcases hu with rfl|rfl<;>simp
 have hxo:=(Sl.form hx).one
 have hyo:=(Sl.form hy).one
 unfold V.one at hxo hyo
 have d1':N<n1:=by omega
 have d2':N<n2:=by omega
 have d3':N+1<n2:=by omega
 have d4':¬N+1=N:=by omega
 simp(disch:=first|(simp;done)|omega|(simp only[Zab,Zaa,Yrr];omega)|rfl) [-getElem?_pos,r0,r1,ny,nx,splice,Zam,hxo,hyo,d1',d2',d3',Zaj,slc,Zal.chk,Ret]
 have hx1:=Sl.setInt (i:=N) (c1:=[.bool false,x]) (e1:=92) (w1:=true) hx r0 nint rfl
 have hy1:=Sl.setInt (i:=N) (c1:=[.bool false,x]) (e1:=92) (w1:=true) hy r0 nint rfl
 have r1':(h2.set N (.cells [.bool false,x] 92 true)).get (N+1)=some (.cells [.bool false,.nilslice] 92 true):=by rw[T.get_set,Yrt (by omega)];exact r1
 have hx2:=Sl.setInt (i:=N+1) (c1:=[.bool false,y]) (e1:=92) (w1:=true) hx1 r1' nint rfl
 have hy2:=Sl.setInt (i:=N+1) (c1:=[.bool false,y]) (e1:=92) (w1:=true) hy1 r1' nint rfl
 have k0:=((Keeps.refl (h:=h) (n:=N)).new (.cells [.bool false,.nilslice] 92 true)).new (.cells [.bool false,.nilslice] 92 true)
 exact⟨(((k0.trans k1).trans k2).set (Yru N)).set (by omega),x,y,⟨rfl,rfl⟩,hx2,hy2⟩
def Zhv{s:Str}(h:Zcs s=true):Zb7 s=true∧1≤s.length:=by
 cases s with
 |nil=>cases h
 |cons c s=>
  unfold Zcs at h
  rw[Ysd]at h
  exact⟨h.1,by simp⟩
def Yn3:ds 1=[1]:=by rw[Zhe (by decide),Zcm];rfl
def Zvj(h:Zb7 s=true)(hl:s.length≤100000):(ds (numV s)).length<1000000000000:=by
 have h1:=Zea h
 have h2:(10:Nat)^s.length≤1000000000^s.length:=Yuf (by decide) _
 have:=Zfq (n:=numV s) (k:=s.length) (by omega)
 omega
def Zku{s:Str}(hl:s.length<9223372036854775808){h:T O}{N:Nat}:Fn A.C 49 [.str s] h N (fun v _ _=>v=.int .i64 (chkNum s:Nat)):=by
 intro w
 rw[Zaf,A.k49 (by simp)]
 cases s with
 |nil=>
  have hsl:=fun st=>Ze8 (s:=[]) (st:=st) (by simp)
  have hdec:=fun st=>Zfr (s:=[]) (st:=st) (by simp)
  simp(disch:=first|(simp;done)|omega|(simp only[Zab,Zaa,Yrr];omega)|rfl) [-getElem?_pos,A.b49,hsl,slashAt,evOpt,hdec,Zcs,Ret]
  exact⟨Keeps.refl,rfl⟩
 |cons c t=>
  by_cases h45:u8I c=45
  ·have hneg:chkNum (c::t)=Zkh true (t.take (slashAt t)) (decide (slashAt t<t.length)) (t.drop (slashAt t+1)):=by
    have:c.toNat=45:=by unfold u8I at h45;omega
    simp[chkNum,Yk8,negS,Zaq,this]
   rw[hneg]
   have hfirst:(0:Int)<(t.length:Int)+1:=by omega
   have hone:∀st:St,Zcg st (some (.str (c::t))) (some (some (.int .i64 1))) (some none)=some (.str t,st):=fun st=>by rw[Zdb (by omega) (by simp only[Yrr];omega)];rfl
   have hsl:=fun st=>Ze8 (s:=t) (st:=st) (by simp at hl;omega)
   have hdec:=fun st=>Zfr (s:=t.take (slashAt t)) (st:=st) (by simp at hl ⊢;omega)
   have hlk:(slashAt t:Int)≤(t.length:Int):=by have:=Zdc t;omega
   have hlk2:slashAt t≤t.length:=Zdc t
   have hpl:(t.take (slashAt t)).length=slashAt t:=by simp;omega
   have hdl:(t.drop (slashAt t+1)).length=t.length-(slashAt t+1):=by simp
   have hhead:=h45
   have hc0:=h45
   have hbt:=h45
   simp at hl
   generalize hp:t.take (slashAt t)=p at*
   generalize hdq:t.drop (slashAt t+1)=d at*
   by_cases hA:Zcs p=true
   ·by_cases hz:p=[48]
    ·have e1:(p==[48])=true:=by simp[hz]
     simp(disch:=first|(simp;done)|omega|(simp only[Zab,Zaa,Yrr];omega)|rfl) [-getElem?_pos,A.b49,hfirst,hone,hsl,hdec,hlk,hlk2,hp,hdq,evOpt,Zag,hhead,hc0,hbt,hA,e1,Ret]
     exact⟨Keeps.refl,by simp[Zkh,Zcb,hz]⟩
    ·have e1:(p==[48])=false:=by simp[hz]
     by_cases hbr:slashAt t<t.length
     ·have hbr':(slashAt t:Int)<(t.length:Int):=by omega
      have hdd:=fun st=>Zfr (s:=d) (st:=st) (by omega)
      by_cases hD:Zcs d=true
      ·by_cases h48:d=[48]
       ·have e8:(d==[48])=true:=by simp[h48]
        simp(disch:=first|(simp;done)|omega|(simp only[Zab,Zaa,Yrr];omega)|rfl) [-getElem?_pos,A.b49,hfirst,hone,hsl,hdec,hlk,hlk2,hp,hdq,evOpt,Zag,hhead,hc0,hbt,hA,e1,hbr,hbr',hdd,hD,e8,Ret]
        exact⟨Keeps.refl,by simp[Zkh,Zcb,h48]⟩
       ·have e8:(d==[48])=false:=by simp[h48]
        by_cases h49:d=[49]
        ·have e9:(d==[49])=true:=by simp[h49]
         simp(disch:=first|(simp;done)|omega|(simp only[Zab,Zaa,Yrr];omega)|rfl) [-getElem?_pos,A.b49,hfirst,hone,hsl,hdec,hlk,hlk2,hp,hdq,evOpt,Zag,hhead,hc0,hbt,hA,e1,hbr,hbr',hdd,hD,e8,e9,Ret]
         exact⟨Keeps.refl,by simp[Zkh,Zcb,h49]⟩
        ·have e9:(d==[49])=false:=by simp[h49]
         have hform:Zcb true p true d=true:=by simp[Zcb,hA,hD,h48,h49,hz]
         by_cases b6:600<p.length
         ·have b6':(600:Int)<(slashAt t:Int):=by omega
          simp(disch:=first|(simp;done)|omega|(simp only[Zab,Zaa,Yrr];omega)|rfl) [-getElem?_pos,A.b49,hfirst,hone,hsl,hdec,hlk,hlk2,hp,hdq,evOpt,Zag,hhead,hc0,hbt,hA,e1,hbr,hbr',hdd,hD,e8,e9,b6',Ret]
          exact⟨Keeps.refl,by simp[Zkh,hform,b6]⟩
         ·have b6':¬(600:Int)<(slashAt t:Int):=by omega
          by_cases b7:600<d.length
          ·have b7':(600:Int)<(t.length:Int)-(slashAt t:Int)-1:=by omega
           simp(disch:=first|(simp;done)|omega|(simp only[Zab,Zaa,Yrr];omega)|rfl) [-getElem?_pos,A.b49,hfirst,hone,hsl,hdec,hlk,hlk2,hp,hdq,evOpt,Zag,hhead,hc0,hbt,hA,e1,hbr,hbr',hdd,hD,e8,e9,b6',b7',Ret]
           exact⟨Keeps.refl,by simp[Zkh,hform,b6,b7]⟩
          ·have b7':¬(600:Int)<(t.length:Int)-(slashAt t:Int)-1:=by omega
           obtain⟨pa,pb⟩:=Zhv hA
           obtain⟨da,db⟩:=Zhv hD
           simp(disch:=first|(simp;done)|omega|(simp only[Zab,Zaa,Yrr];omega)|rfl) [-getElem?_pos,A.b49,hfirst,hone,hsl,hdec,hlk,hlk2,hp,hdq,evOpt,Zag,hhead,hc0,hbt,hA,e1,hbr,hbr',hdd,hD,e8,e9,b6',b7']
           refine Zac (Zqq hbr (by rw[hp];exact pa) (by rw[hdq];exact da) (by rw[hp];exact pb) (by rw[hdq];exact db) (by omega)) ?_
           rintro v1 h1 n1 k1 ⟨x,y,rfl,hx,hy⟩
           rw[hp]at hx
           rw[hdq]at hy
           have hxo:=(Sl.form hx).one
           have hyo:=(Sl.form hy).one
           unfold V.one at hxo hyo
           have kx:=((((Keeps.refl (h:=h1) (n:=n1)).new (.cells [.bool false,.nilslice] 92 true)).new (.cells [.bool false,.nilslice] 92 true)).set (i:=n1) (o:=.cells [.bool false,x] 92 true) (Yru n1)).set (i:=n1+1) (o:=.cells [.bool false,y] 92 true) (by omega)
           simp(disch:=first|(simp;done)|omega|(simp only[Zab,Zaa,Yrr];omega)|rfl) [-getElem?_pos,splice,Zam,hxo,hyo]
           refine Zac (Zkf (hx.keep kx) (hy.keep kx) (Zvj pa (by omega)) (Zvj da (by omega))) ?_
           rintro z h2 n2 k2 hz2
           have kk:=(k1.trans kx).trans k2
           have lz:=hz2.len
           rw[Zat]at lz
           have wok:¬n1<N:=by have:=k1.le;omega
           have wok2:¬n1+1<N:=by have:=k1.le;omega
           generalize hG:Nat.gcd (numV p) (numV d)=G at*
           by_cases g1:G=1
           ·subst g1
            rw[Yn3]at lz
            obtain⟨b1,b2,b3,b4,b5,z1,z2,z3,z4⟩:=Sl.at (show Sl h2 n2 z (dI [1]) from Yn3▸hz2) (j:=0) (x:=.int .i64 1) rfl
            simp at z4
            simp(disch:=first|(simp;done)|omega|(simp only[Zab,Zaa,Yrr];omega)|rfl) [-getElem?_pos,lz,z1,z3,z4,Zag,Ret,wok,wok2]
            exact⟨kk,by simp[Zkh,hform,b6,b7,hG]⟩
           ·have hres:Zkh true p true d=1:=by simp[Zkh,hform,b6,b7,hG,g1]
            by_cases g2:(ds G).length=1
            ·obtain⟨gx,hgx⟩:=Zao (l:=ds G) (k:=0) (by omega)
             obtain⟨b1,b2,b3,b4,b5,z1,z2,z3,z4⟩:=Sl.at (show Sl h2 n2 z (dI (ds G)) from hz2) (Zbj hgx)
             simp at z4
             have gne:¬gx=1:=fun hc=>g1 (by
              have hv:=Zbg G
              rw[Zzm hgx,Ytb (by omega)]at hv
              simp[vI,pI]at hv
              omega)
             simp(disch:=first|(simp;done)|omega|(simp only[Zab,Zaa,Yrr];omega)|rfl) [-getElem?_pos,lz,g2,z1,z3,z4,gne,Zag,Ret,wok,wok2,hres]
             exact kk
            ·have g2':¬((ds G).length:Int)=1:=by omega
             simp(disch:=first|(simp;done)|omega|(simp only[Zab,Zaa,Yrr];omega)|rfl) [-getElem?_pos,lz,g2,g2',Zag,Ret,wok,wok2,hres]
             exact kk
      ·have hD:Zcs d=false:=by simpa using hD
       simp(disch:=first|(simp;done)|omega|(simp only[Zab,Zaa,Yrr];omega)|rfl) [-getElem?_pos,A.b49,hfirst,hone,hsl,hdec,hlk,hlk2,hp,hdq,evOpt,Zag,hhead,hc0,hbt,hA,e1,hbr,hbr',hdd,hD,Ret]
       exact⟨Keeps.refl,by simp[Zkh,Zcb,hD]⟩
     ·have hbr2:slashAt t=t.length:=by omega
      have hbr':¬(slashAt t:Int)<(t.length:Int):=by omega
      have hform:Zcb true p false d=true:=by simp[Zcb,hA,hz]
      have dl0:¬600<d.length:=by omega
      have b7':¬(600:Int)<(t.length:Int)-(slashAt t:Int)-1:=by omega
      by_cases b6:600<p.length
      ·have b6':(600:Int)<(slashAt t:Int):=by omega
       simp(disch:=first|(simp;done)|omega|(simp only[Zab,Zaa,Yrr];omega)|rfl) [-getElem?_pos,A.b49,hfirst,hone,hsl,hdec,hlk,hlk2,hp,hdq,evOpt,Zag,hhead,hc0,hbt,hA,e1,hbr,hbr',b6',Ret]
       exact⟨Keeps.refl,by simp[Zkh,hform,b6]⟩
      ·have b6':¬(600:Int)<(slashAt t:Int):=by omega
       simp(disch:=first|(simp;done)|omega|(simp only[Zab,Zaa,Yrr];omega)|rfl) [-getElem?_pos,A.b49,hfirst,hone,hsl,hdec,hlk,hlk2,hp,hdq,evOpt,Zag,hhead,hc0,hbt,hA,e1,hbr,hbr',b6',b7',Ret]
       exact⟨Keeps.refl,by simp[Zkh,hform,b6,dl0]⟩
   ·have hA:Zcs p=false:=by simpa using hA
    simp(disch:=first|(simp;done)|omega|(simp only[Zab,Zaa,Yrr];omega)|rfl) [-getElem?_pos,A.b49,hfirst,hone,hsl,hdec,hlk,hlk2,hp,hdq,evOpt,Zag,hhead,hc0,hbt,hA,Ret]
    exact⟨Keeps.refl,by simp[Zkh,Zcb,hA]⟩
  ·have hsn:negS (c::t)=false:=by
    simp only[negS,decide_eq_false_iff_not];unfold u8I at h45;omega
   obtain⟨t,ht⟩:∃t',t'=c::t:=⟨c::t,rfl⟩
   rw[←ht]at hl hsn ⊢
   have hc0:t[0]?=some c:=by rw[ht];rfl
   have hhead:t.head?=some c:=by rw[ht];rfl
   have hlen:0<t.length:=by rw[ht];simp
   have hbt:t≠[]:=by rw[ht];simp
   have hlen':(0:Int)<(t.length:Int):=by omega
   have hfirst:0<t.length:=hlen
   have hone:True:=trivial
   clear ht
   have hneg:chkNum t=Zkh false (t.take (slashAt t)) (decide (slashAt t<t.length)) (t.drop (slashAt t+1)):=by
    simp[chkNum,Yk8,Zaq,hsn]
   rw[hneg]
   have hsl:=fun st=>Ze8 (s:=t) (st:=st) (by omega)
   have hdec:=fun st=>Zfr (s:=t.take (slashAt t)) (st:=st) (by simp;omega)
   have hlk:(slashAt t:Int)≤(t.length:Int):=by have:=Zdc t;omega
   have hlk2:slashAt t≤t.length:=Zdc t
   have hpl:(t.take (slashAt t)).length=slashAt t:=by simp;omega
   have hdl:(t.drop (slashAt t+1)).length=t.length-(slashAt t+1):=by simp
   generalize hp:t.take (slashAt t)=p at*
   generalize hdq:t.drop (slashAt t+1)=d at*
   by_cases hA:Zcs p=true
   ·have e1:True:=trivial
    by_cases hbr:slashAt t<t.length
    ·have hbr':(slashAt t:Int)<(t.length:Int):=by omega
     have hdd:=fun st=>Zfr (s:=d) (st:=st) (by omega)
     by_cases hD:Zcs d=true
     ·by_cases h48:d=[48]
      ·have e8:(d==[48])=true:=by simp[h48]
       simp(disch:=first|(simp;done)|omega|(simp only[Zab,Zaa,Yrr];omega)|rfl) [-getElem?_pos,A.b49,hfirst,hone,hsl,hdec,hlk,hlk2,hp,hdq,evOpt,Zag,hhead,hc0,hbt,h45,hlen',hA,e1,hbr,hbr',hdd,hD,e8,Ret]
       exact⟨Keeps.refl,by simp[Zkh,Zcb,h48]⟩
      ·have e8:(d==[48])=false:=by simp[h48]
       by_cases h49:d=[49]
       ·have e9:(d==[49])=true:=by simp[h49]
        simp(disch:=first|(simp;done)|omega|(simp only[Zab,Zaa,Yrr];omega)|rfl) [-getElem?_pos,A.b49,hfirst,hone,hsl,hdec,hlk,hlk2,hp,hdq,evOpt,Zag,hhead,hc0,hbt,h45,hlen',hA,e1,hbr,hbr',hdd,hD,e8,e9,Ret]
        exact⟨Keeps.refl,by simp[Zkh,Zcb,h49]⟩
       ·have e9:(d==[49])=false:=by simp[h49]
        have hform:Zcb false p true d=true:=by simp[Zcb,hA,hD,h48,h49]
        by_cases b6:600<p.length
        ·have b6':(600:Int)<(slashAt t:Int):=by omega
         simp(disch:=first|(simp;done)|omega|(simp only[Zab,Zaa,Yrr];omega)|rfl) [-getElem?_pos,A.b49,hfirst,hone,hsl,hdec,hlk,hlk2,hp,hdq,evOpt,Zag,hhead,hc0,hbt,h45,hlen',hA,e1,hbr,hbr',hdd,hD,e8,e9,b6',Ret]
         exact⟨Keeps.refl,by simp[Zkh,hform,b6]⟩
        ·have b6':¬(600:Int)<(slashAt t:Int):=by omega
         by_cases b7:600<d.length
         ·have b7':(600:Int)<(t.length:Int)-(slashAt t:Int)-1:=by omega
          simp(disch:=first|(simp;done)|omega|(simp only[Zab,Zaa,Yrr];omega)|rfl) [-getElem?_pos,A.b49,hfirst,hone,hsl,hdec,hlk,hlk2,hp,hdq,evOpt,Zag,hhead,hc0,hbt,h45,hlen',hA,e1,hbr,hbr',hdd,hD,e8,e9,b6',b7',Ret]
          exact⟨Keeps.refl,by simp[Zkh,hform,b6,b7]⟩
         ·have b7':¬(600:Int)<(t.length:Int)-(slashAt t:Int)-1:=by omega
          obtain⟨pa,pb⟩:=Zhv hA
          obtain⟨da,db⟩:=Zhv hD
          simp(disch:=first|(simp;done)|omega|(simp only[Zab,Zaa,Yrr];omega)|rfl) [-getElem?_pos,A.b49,hfirst,hone,hsl,hdec,hlk,hlk2,hp,hdq,evOpt,Zag,hhead,hc0,hbt,h45,hlen',hA,e1,hbr,hbr',hdd,hD,e8,e9,b6',b7']
          refine Zac (Zqq hbr (by rw[hp];exact pa) (by rw[hdq];exact da) (by rw[hp];exact pb) (by rw[hdq];exact db) (by omega)) ?_
          rintro v1 h1 n1 k1 ⟨x,y,rfl,hx,hy⟩
          rw[hp]at hx
          rw[hdq]at hy
          have hxo:=(Sl.form hx).one
          have hyo:=(Sl.form hy).one
          unfold V.one at hxo hyo
          have kx:=((((Keeps.refl (h:=h1) (n:=n1)).new (.cells [.bool false,.nilslice] 92 true)).new (.cells [.bool false,.nilslice] 92 true)).set (i:=n1) (o:=.cells [.bool false,x] 92 true) (Yru n1)).set (i:=n1+1) (o:=.cells [.bool false,y] 92 true) (by omega)
          simp(disch:=first|(simp;done)|omega|(simp only[Zab,Zaa,Yrr];omega)|rfl) [-getElem?_pos,splice,Zam,hxo,hyo]
          refine Zac (Zkf (hx.keep kx) (hy.keep kx) (Zvj pa (by omega)) (Zvj da (by omega))) ?_
          rintro z h2 n2 k2 hz2
          have kk:=(k1.trans kx).trans k2
          have lz:=hz2.len
          rw[Zat]at lz
          have wok:¬n1<N:=by have:=k1.le;omega
          have wok2:¬n1+1<N:=by have:=k1.le;omega
          generalize hG:Nat.gcd (numV p) (numV d)=G at*
          by_cases g1:G=1
          ·subst g1
           rw[Yn3]at lz
           obtain⟨b1,b2,b3,b4,b5,z1,z2,z3,z4⟩:=Sl.at (show Sl h2 n2 z (dI [1]) from Yn3▸hz2) (j:=0) (x:=.int .i64 1) rfl
           simp at z4
           simp(disch:=first|(simp;done)|omega|(simp only[Zab,Zaa,Yrr];omega)|rfl) [-getElem?_pos,lz,z1,z3,z4,Zag,Ret,wok,wok2]
           exact⟨kk,by simp[Zkh,hform,b6,b7,hG]⟩
          ·have hres:Zkh false p true d=1:=by simp[Zkh,hform,b6,b7,hG,g1]
           by_cases g2:(ds G).length=1
           ·obtain⟨gx,hgx⟩:=Zao (l:=ds G) (k:=0) (by omega)
            obtain⟨b1,b2,b3,b4,b5,z1,z2,z3,z4⟩:=Sl.at (show Sl h2 n2 z (dI (ds G)) from hz2) (Zbj hgx)
            simp at z4
            have gne:¬gx=1:=fun hc=>g1 (by
             have hv:=Zbg G
             rw[Zzm hgx,Ytb (by omega)]at hv
             simp[vI,pI]at hv
             omega)
            simp(disch:=first|(simp;done)|omega|(simp only[Zab,Zaa,Yrr];omega)|rfl) [-getElem?_pos,lz,g2,z1,z3,z4,gne,Zag,Ret,wok,wok2,hres]
            exact kk
           ·have g2':¬((ds G).length:Int)=1:=by omega
            simp(disch:=first|(simp;done)|omega|(simp only[Zab,Zaa,Yrr];omega)|rfl) [-getElem?_pos,lz,g2,g2',Zag,Ret,wok,wok2,hres]
            exact kk
     ·have hD:Zcs d=false:=by simpa using hD
      simp(disch:=first|(simp;done)|omega|(simp only[Zab,Zaa,Yrr];omega)|rfl) [-getElem?_pos,A.b49,hfirst,hone,hsl,hdec,hlk,hlk2,hp,hdq,evOpt,Zag,hhead,hc0,hbt,h45,hlen',hA,e1,hbr,hbr',hdd,hD,Ret]
      exact⟨Keeps.refl,by simp[Zkh,Zcb,hD]⟩
    ·have hbr2:slashAt t=t.length:=by omega
     have hbr':¬(slashAt t:Int)<(t.length:Int):=by omega
     have hform:Zcb false p false d=true:=by simp[Zcb,hA]
     have dl0:¬600<d.length:=by omega
     have b7':¬(600:Int)<(t.length:Int)-(slashAt t:Int)-1:=by omega
     by_cases b6:600<p.length
     ·have b6':(600:Int)<(slashAt t:Int):=by omega
      simp(disch:=first|(simp;done)|omega|(simp only[Zab,Zaa,Yrr];omega)|rfl) [-getElem?_pos,A.b49,hfirst,hone,hsl,hdec,hlk,hlk2,hp,hdq,evOpt,Zag,hhead,hc0,hbt,h45,hlen',hA,e1,hbr,hbr',b6',Ret]
      exact⟨Keeps.refl,by simp[Zkh,hform,b6]⟩
     ·have b6':¬(600:Int)<(slashAt t:Int):=by omega
      simp(disch:=first|(simp;done)|omega|(simp only[Zab,Zaa,Yrr];omega)|rfl) [-getElem?_pos,A.b49,hfirst,hone,hsl,hdec,hlk,hlk2,hp,hdq,evOpt,Zag,hhead,hc0,hbt,h45,hlen',hA,e1,hbr,hbr',b6',b7',Ret]
      exact⟨Keeps.refl,by simp[Zkh,hform,b6,dl0]⟩
   ·have hA:Zcs p=false:=by simpa using hA
    simp(disch:=first|(simp;done)|omega|(simp only[Zab,Zaa,Yrr];omega)|rfl) [-getElem?_pos,A.b49,hfirst,hone,hsl,hdec,hlk,hlk2,hp,hdq,evOpt,Zag,hhead,hc0,hbt,h45,hlen',hA,Ret]
    exact⟨Keeps.refl,by simp[Zkh,Zcb,hA]⟩
def Yaj(hl:s.length≤100000){h:T O}{N:Nat}:Fn A.C 49 [.str s] h N (fun v _ _=>v=.int .i64 (chkNum s:Nat)):=Zku (by omega)
variable {N:Nat} {a b:Int} {h:T O} {x y:V}
def A.b65:=A.q Tryz.f65
def A.k65:=@A.kk 65 57 [.tmp 4] A.b65 (by kernel_rfl) rfl
def Zrs(hb:0<b):b.natAbs/Nat.gcd a.natAbs b.natAbs=(Rat.divInt a b).den:=by
 have h:((Rat.divInt a b).den:Int)=((b.natAbs/Nat.gcd a.natAbs b.natAbs:Nat):Int):=by
  rw[Rat.den_divInt,Yrt (by omega),Int.gcd_comm]
  rfl
 exact(Int.ofNat_inj.1 h).symm
def Zna(hb:0<b):(if decide (a<0)=true then -((a.natAbs/Nat.gcd a.natAbs b.natAbs:Nat):Int) else ((a.natAbs/Nat.gcd a.natAbs b.natAbs:Nat):Int))=(Rat.divInt a b).num:=by
 rw[Rat.num_divInt,Int.sign_eq_one_of_pos hb,Int.one_mul,Int.gcd_comm]
 have hd:((Int.gcd a b:Nat):Int)∣a:=Int.gcd_dvd_left ..
 have he:Nat.gcd a.natAbs b.natAbs=Int.gcd a b:=rfl
 rw[he,Int.natCast_ediv]
 by_cases ha:a<0
 ·have h1:(a.natAbs:Int)= -a:=by omega
  simp only[ha,decide_true,if_true,h1]
  rw[Int.neg_ediv_of_dvd hd,Int.neg_neg]
 ·have h1:(a.natAbs:Int)=a:=by omega
  simp[ha,h1]
def Yc5{z:Int}:(decI z).length≤9*(ds z.natAbs).length+2:=by
 have:=Zni (n:=z.natAbs)
 unfold decI
 split<;>simp<;>omega
def Yhz{m e:Nat}(h0:0<m)(he:m%1000000000=e):m=1↔(ds m).length=1∧e=1:=by
 constructor
 ·rintro rfl
  exact⟨by have:=Yhy (r:=1) (by omega);rw[←this];decide,by omega⟩
 ·rintro⟨h1,h2⟩
  have h3:=Zii (Zce m)
  rw[Zbg,h1,Zpn,Nat.pow_one]at h3
  omega
def Zrq(hx:Rg h N x a)(hy:Rg h N y b)(hb:0<b)(l3:(ds a.natAbs).length<100000000000)(l4:(ds b.natAbs).length<100000000000):Fn A.C 65 [x,y] h N (fun u _ _=>u=.str (Zas (Rat.divInt a b))):=by
 intro w
 obtain⟨u,rfl,hu0⟩:=hx
 obtain⟨v,rfl,hv0⟩:=hy
 have o1:=Sl.form hu0 |>.one
 have o2:=Sl.form hu0 |>.cells
 have o3:=Sl.form hv0 |>.one
 have o4:=Sl.form hv0 |>.cells
 unfold V.one at o1 o3
 unfold V.cells at o2 o4
 have l1:(ds a.natAbs).length<1000000000000:=by omega
 have l2:(ds b.natAbs).length<1000000000000:=by omega
 have hb':¬b<0:=by omega
 rw[show decide (b<0)=false by simp[hb']]
 have kB:=(((Keeps.refl (h:=h) (n:=N)).new (.cells [.bool (decide (a<0)),u] 92 true)).new (.cells [.bool false,v] 92 true))
 have hu:=Sl.keep hu0 kB
 have hv:=Sl.keep hv0 kB
 rw[Zaf,A.k65 (by simp)]
 simp(disch:=first|(simp;done)|omega|rfl) [-getElem?_pos,A.b65,o1,o2,o3,o4,splice,Zaj,slc,Zag,hb']
 generalize hB:(h.set N (.cells [.bool (decide (a<0)),u] 92 true)).set (N+1) (.cells [.bool false,v] 92 true)=HB at*
 have gN:HB.get N=some (.cells [.bool (decide (a<0)),u] 92 true):=by rw[←hB];simp
 have gM:HB.get (N+1)=some (.cells [.bool false,v] 92 true):=by rw[←hB];simp
 refine Zac (Zkf hu hv l1 l2) ?_
 rintro v1 h1 n1 k1 q1
 have gN1:=(k1.get N (by omega)).trans gN
 have gM1:=(k1.get (N+1) (by omega)).trans gM
 have hg0:0<Nat.gcd a.natAbs b.natAbs:=Yvd _ (by omega)
 have lg:(ds (Nat.gcd a.natAbs b.natAbs)).length<1000000000000:=Ysl (Zct (Nat.gcd_le_right _ (by omega))) l2
 have le1:=k1.le
 simp(disch:=first|(simp;done)|omega|rfl) [-getElem?_pos,gN1,gM1,o1,o2,o3,o4,splice,Zaj,slc]
 refine Zac (Zml (hu.keep k1) q1 hg0 l1 lg) ?_
 rintro _ h2 n2 k2 ⟨q,r1,rfl,q2, -⟩
 have gM2:=(k2.get (N+1) (by omega)).trans gM1
 have le2:=k2.le
 simp(disch:=first|(simp;done)|omega|rfl) [-getElem?_pos,gM2,o1,o2,o3,o4,splice,Zaj,slc]
 refine Zac (Zml ((hv.keep k1).keep k2) (q1.keep k2) hg0 l2 lg) ?_
 rintro _ h3 n3 k3 ⟨d,r2,rfl,q3, -⟩
 have gN3:=(k3.get N (by omega)).trans ((k2.get N (by omega)).trans gN1)
 have le3:=k3.le
 rw[Zrs hb]at q3
 have lq:(ds (a.natAbs/Nat.gcd a.natAbs b.natAbs)).length<100000000000:=Ysl (Zct (Yti _ _)) l3
 have ld3:(ds (Rat.divInt a b).den).length<100000000000:=by rw[←Zrs hb];exact Ysl (Zct (Yti _ _)) l4
 simp(disch:=first|(simp;done)|omega|rfl) [-getElem?_pos,gN3,o1,o2,o3,o4,splice,Zaj,slc]
 refine Zac (Zbz (n:=a.natAbs/Nat.gcd a.natAbs b.natAbs) (q2.keep k3) (Zce _) (Zbg _) (by omega)) ?_
 rintro v4 h4 n4 k4 q4
 have le4:=k4.le
 rw[Zna hb]at q4
 simp(disch:=first|(simp;done)|omega|rfl) [-getElem?_pos,]
 refine Zac (Zhr q4 (by rw[←Zna hb];split<;>(first|rw[Yuo,Yrz]|rw[Yrz])<;>exact lq)) ?_
 rintro _ h5 n5 k5 rfl
 have le5:=k5.le
 obtain⟨m,hm⟩:∃m,(Rat.divInt a b).den=m:=⟨_,rfl⟩
 have hm0:0<m:=by rw[←hm];exact Rat.den_pos _
 rw[hm]at q3 ld3
 have hsl:=Yc5 (z:=(Rat.divInt a b).num)
 have hnl:(ds (Rat.divInt a b).num.natAbs).length<100000000000:=by rw[←Zna hb];split<;>(first|rw[Yuo,Yrz]|rw[Yrz])<;>exact lq
 have htx:Zas (Rat.divInt a b)=if m=1 then decI (Rat.divInt a b).num else decI (Rat.divInt a b).num++47::decN m:=by unfold Zas;rw[hm]
 rw[htx]
 generalize decI (Rat.divInt a b).num=s at*
 have hd5:Dn h5 n5 d m:=(q3.keep k4).keep k5
 have ld:=Sl.len hd5
 rw[Zat]at ld
 have hpos:(ds m).length≠0:=fun hc=>(by omega:m≠0) (Zdq.1 (Yr7 hc))
 have hg:=Zv6 (i:=0) (n:=m) (by omega)
 rw[Yvc,Nat.div_one]at hg
 obtain⟨e,he⟩:∃e,m%1000000000=e:=⟨_,rfl⟩
 rw[he]at hg
 have hd1:m=1↔(ds m).length=1∧e=1:=Yhz hm0 he
 obtain⟨i,o,c,te,rw_,p1,p2,p3,p4⟩:=Sl.at hd5 (Zbj hg)
 rw[Yty]at p4
 obtain⟨L,hL⟩:∃L,(ds m).length=L:=⟨_,rfl⟩
 rw[hL]at ld hd1
 have hdl:=Zni (n:=m)
 rw[hL]at hdl ld3
 have hmx:IntKind.max .i64=9223372036854775807:=rfl
 have b1:¬(9223372036854775807:Int)<(s.length:Int)+1:=by omega
 have b2:¬(9223372036854775807:Int)<(s.length:Int)+1+((decN m).length:Int):=by omega
 have hdm:decI (m:Int)=decN m:=by unfold decI;rw[Yrt (by omega),Yrz]
 have hldm:(ds m).length<1152921504606846976:=by omega
 have K5:Keeps h N h5 n5:=((((kB.trans k1).trans k2).trans k3).trans k4).trans k5
 by_cases hm1:m=1
 ·obtain⟨rfl,rfl⟩:=hd1.1 hm1
  rw[Yrw hm1]
  clear hsl hnl hdl b1 b2 hldm ld3
  simp(disch:=first|(simp;done)|omega|rfl) [-getElem?_pos,ld,p1,p3,p4,splice,Ret,Zag]
  exact K5
 ·rw[Yrt hm1]
  by_cases hL1:L=1
  ·have he1:¬e=1:=fun hc=>hm1 (hd1.2 ⟨hL1,hc⟩)
   have he2:¬(e:Int)=1:=by omega
   subst hL1
   clear hsl hnl hdl
   simp(disch:=first|(simp;done)|omega|rfl) [-getElem?_pos,ld,p1,p3,p4,splice,Ret,Zag,he1,he2,Zbo,hmx,b1]
   refine Zac (Zbz (b:=false) (n:=m) hd5 (Zce _) (Zbg _) hldm) ?_
   rintro v6 h6 n6 k6 q6
   have q7:Rg h6 n6 v6 (m:Int):=by simpa using q6
   simp(disch:=first|(simp;done)|omega|rfl) [-getElem?_pos,]
   refine Zac (Zhr q7 (by rw[Yrz,hL];exact ld3)) ?_
   rintro _ h7 n7 k7 rfl
   rw[hdm]
   simp(disch:=first|(simp;done)|omega|rfl) [-getElem?_pos,Zbo,hmx,b2,Ret]
   exact(K5.trans k6).trans k7
  ·have hL2:¬(L:Int)=1:=by omega
   clear hsl hnl hdl
   simp(disch:=first|(simp;done)|omega|rfl) [-getElem?_pos,ld,hL1,hL2,splice,Ret,Zag,Zbo,hmx,b1]
   refine Zac (Zbz (b:=false) (n:=m) hd5 (Zce _) (Zbg _) hldm) ?_
   rintro v6 h6 n6 k6 q6
   have q7:Rg h6 n6 v6 (m:Int):=by simpa using q6
   simp(disch:=first|(simp;done)|omega|rfl) [-getElem?_pos,]
   refine Zac (Zhr q7 (by rw[Yrz,hL];exact ld3)) ?_
   rintro _ h7 n7 k7 rfl
   rw[hdm]
   simp(disch:=first|(simp;done)|omega|rfl) [-getElem?_pos,Zbo,hmx,b2,Ret]
   exact(K5.trans k6).trans k7
def Zrr{P Q:Int}(hx:Rg h N x P)(hy:Rg h N y Q)(hB0:Q<0)(l3:(ds P.natAbs).length<100000000000)(l4:(ds Q.natAbs).length<100000000000):Fn A.C 65 [x,y] h N (fun u _ _=>u=.str (Zas (Rat.divInt P Q))):=by
 intro w
 obtain⟨u0,rfl,hu0⟩:=hx
 obtain⟨v0,rfl,hv0⟩:=hy
 have o1:=Sl.form hu0 |>.one
 have o2:=Sl.form hu0 |>.cells
 have o3:=Sl.form hv0 |>.one
 have o4:=Sl.form hv0 |>.cells
 unfold V.one at o1 o3
 unfold V.cells at o2 o4
 have hx0:Rg h N (.agg [.bool (decide (P<0)),u0]) P:=⟨u0,rfl,hu0⟩
 have hy0:Rg h N (.agg [.bool true,v0]) Q:=⟨v0,by simp[hB0],hv0⟩
 rw[show decide (Q<0)=true by simp[hB0]]
 have kA:=(((Keeps.refl (h:=h) (n:=N)).new (.cells [.bool (decide (P<0)),u0] 92 true)).new (.cells [.bool true,v0] 92 true))
 rw[Zaf,A.k65 (by simp)]
 simp(disch:=first|(simp;done)|omega|rfl) [-getElem?_pos,A.b65,o1,o2,o3,o4,splice,Zaj,slc,Zag]
 generalize hA:(h.set N (.cells [.bool (decide (P<0)),u0] 92 true)).set (N+1) (.cells [.bool true,v0] 92 true)=HA at*
 have gN0:HA.get N=some (.cells [.bool (decide (P<0)),u0] 92 true):=by rw[←hA];simp
 have gM0:HA.get (N+1)=some (.cells [.bool true,v0] 92 true):=by rw[←hA];simp
 refine Zac (Zvq (hx0.keep kA) (by omega)) ?_
 rintro _ m1 t1 j1 q1
 obtain⟨a,ha⟩:∃a,a= -P:=⟨_,rfl⟩
 rw[←ha]at q1
 obtain⟨u,rfl,hu1⟩:=q1
 have i1:=j1.le
 have gN1:=(j1.get N (by omega)).trans gN0
 have gM1:=(j1.get (N+1) (by omega)).trans gM0
 simp(disch:=first|(simp;done)|omega|rfl) [-getElem?_pos,gM1,gN1,o1,o2,o3,o4,splice,Zaj,slc]
 refine Zac (Zvq ((hy0.keep kA).keep j1) (by omega)) ?_
 rintro _ m2 t2 j2 q2
 obtain⟨b,hb0⟩:∃b,b= -Q:=⟨_,rfl⟩
 rw[←hb0]at q2
 have hb:0<b:=by omega
 obtain⟨v,rfl,hv2⟩:=q2
 rw[show decide (b<0)=false by simp;omega]
 have hab:Rat.divInt P Q=Rat.divInt a b:=by rw[ha,hb0];exact(Rat.neg_divInt_neg P Q).symm
 rw[hab]
 have n1:=Ymn (b:=decide (P<0)) (Sl.form hu0)
 have n2:=Ymn (b:=true) (Sl.form hv0)
 have i2:=j2.le
 have gN2:=(j2.get N (by omega)).trans gN1
 have gM2:=(j2.get (N+1) (by omega)).trans gM1
 have s1:=Sl.form hu1 |>.one
 have s2:=Sl.form hu1 |>.cells
 have s3:=Sl.form hv2 |>.one
 have s4:=Sl.form hv2 |>.cells
 unfold V.one at s1 s3
 unfold V.cells at s2 s4
 have g1:N+1<t1:=by omega
 have g2:N+1<t2:=by omega
 have g3:N<t2:=by omega
 simp(disch:=first|(simp;done)|omega|rfl) [-getElem?_pos,gN2,gM2,s1,s2,s3,s4,splice,Zam,Zaj,slc,Zal.chk,g1,g2,g3]
 have gM3:(m2.set N (.cells [.bool (decide (a<0)),u] 92 true)).get (N+1)=some (.cells [.bool true,v0] 92 true):=by rw[T.get_set,Yrt (by omega)];exact gM2
 have kB:=((((kA.trans j1).trans j2).set (i:=N) (o:=.cells [.bool (decide (a<0)),u] 92 true) (by omega))).set (i:=N+1) (o:=.cells [.bool false,v] 92 true) (by omega)
 have hu:=Sl.setInt (Sl.setInt (hu1.keep j2) gN2 n1 (c1:=[.bool (decide (a<0)),u]) (e1:=92) (w1:=true) rfl) gM3 n2 (c1:=[.bool false,v]) (e1:=92) (w1:=true) rfl
 have hv:=Sl.setInt (Sl.setInt hv2 gN2 n1 (c1:=[.bool (decide (a<0)),u]) (e1:=92) (w1:=true) rfl) gM3 n2 (c1:=[.bool false,v]) (e1:=92) (w1:=true) rfl
 generalize hB:(m2.set N (.cells [.bool (decide (a<0)),u] 92 true)).set (N+1) (.cells [.bool false,v] 92 true)=HB at*
 have gN:HB.get N=some (.cells [.bool (decide (a<0)),u] 92 true):=by rw[←hB];simp
 have gM:HB.get (N+1)=some (.cells [.bool false,v] 92 true):=by rw[←hB];simp
 have ea:a.natAbs=P.natAbs:=by omega
 have eb:b.natAbs=Q.natAbs:=by omega
 rw[←ea]at l3
 rw[←eb]at l4
 have l1:(ds a.natAbs).length<1000000000000:=by omega
 have l2:(ds b.natAbs).length<1000000000000:=by omega
 clear o1 o2 o3 o4
 have o1:=s1
 have o2:=s2
 have o3:=s3
 have o4:=s4
 clear s1 s2 s3 s4 gM3 gN2 gM2 gN1 gM1 gN0 gM0 n1 n2 hA hab
 refine Zac (Zkf hu hv l1 l2) ?_
 rintro v1 h1 n1 k1 q1
 have gN1:=(k1.get N (by omega)).trans gN
 have gM1:=(k1.get (N+1) (by omega)).trans gM
 have hg0:0<Nat.gcd a.natAbs b.natAbs:=Yvd _ (by omega)
 have lg:(ds (Nat.gcd a.natAbs b.natAbs)).length<1000000000000:=Ysl (Zct (Nat.gcd_le_right _ (by omega))) l2
 have le1:=k1.le
 simp(disch:=first|(simp;done)|omega|rfl) [-getElem?_pos,gN1,gM1,o1,o2,o3,o4,splice,Zaj,slc]
 refine Zac (Zml (hu.keep k1) q1 hg0 l1 lg) ?_
 rintro _ h2 n2 k2 ⟨q,r1,rfl,q2, -⟩
 have gM2:=(k2.get (N+1) (by omega)).trans gM1
 have le2:=k2.le
 simp(disch:=first|(simp;done)|omega|rfl) [-getElem?_pos,gM2,o1,o2,o3,o4,splice,Zaj,slc]
 refine Zac (Zml ((hv.keep k1).keep k2) (q1.keep k2) hg0 l2 lg) ?_
 rintro _ h3 n3 k3 ⟨d,r2,rfl,q3, -⟩
 have gN3:=(k3.get N (by omega)).trans ((k2.get N (by omega)).trans gN1)
 have le3:=k3.le
 rw[Zrs hb]at q3
 have lq:(ds (a.natAbs/Nat.gcd a.natAbs b.natAbs)).length<100000000000:=Ysl (Zct (Yti _ _)) l3
 have ld3:(ds (Rat.divInt a b).den).length<100000000000:=by rw[←Zrs hb];exact Ysl (Zct (Yti _ _)) l4
 simp(disch:=first|(simp;done)|omega|rfl) [-getElem?_pos,gN3,o1,o2,o3,o4,splice,Zaj,slc]
 refine Zac (Zbz (n:=a.natAbs/Nat.gcd a.natAbs b.natAbs) (q2.keep k3) (Zce _) (Zbg _) (by omega)) ?_
 rintro v4 h4 n4 k4 q4
 have le4:=k4.le
 rw[Zna hb]at q4
 simp(disch:=first|(simp;done)|omega|rfl) [-getElem?_pos,]
 refine Zac (Zhr q4 (by rw[←Zna hb];split<;>(first|rw[Yuo,Yrz]|rw[Yrz])<;>exact lq)) ?_
 rintro _ h5 n5 k5 rfl
 have le5:=k5.le
 obtain⟨m,hm⟩:∃m,(Rat.divInt a b).den=m:=⟨_,rfl⟩
 have hm0:0<m:=by rw[←hm];exact Rat.den_pos _
 rw[hm]at q3 ld3
 have hsl:=Yc5 (z:=(Rat.divInt a b).num)
 have hnl:(ds (Rat.divInt a b).num.natAbs).length<100000000000:=by rw[←Zna hb];split<;>(first|rw[Yuo,Yrz]|rw[Yrz])<;>exact lq
 have htx:Zas (Rat.divInt a b)=if m=1 then decI (Rat.divInt a b).num else decI (Rat.divInt a b).num++47::decN m:=by unfold Zas;rw[hm]
 rw[htx]
 generalize decI (Rat.divInt a b).num=s at*
 have hd5:Dn h5 n5 d m:=(q3.keep k4).keep k5
 have ld:=Sl.len hd5
 rw[Zat]at ld
 have hpos:(ds m).length≠0:=fun hc=>(by omega:m≠0) (Zdq.1 (Yr7 hc))
 have hg:=Zv6 (i:=0) (n:=m) (by omega)
 rw[Yvc,Nat.div_one]at hg
 obtain⟨e,he⟩:∃e,m%1000000000=e:=⟨_,rfl⟩
 rw[he]at hg
 have hd1:m=1↔(ds m).length=1∧e=1:=Yhz hm0 he
 obtain⟨i,o,c,te,rw_,p1,p2,p3,p4⟩:=Sl.at hd5 (Zbj hg)
 rw[Yty]at p4
 obtain⟨L,hL⟩:∃L,(ds m).length=L:=⟨_,rfl⟩
 rw[hL]at ld hd1
 have hdl:=Zni (n:=m)
 rw[hL]at hdl ld3
 have hmx:IntKind.max .i64=9223372036854775807:=rfl
 have b1:¬(9223372036854775807:Int)<(s.length:Int)+1:=by omega
 have b2:¬(9223372036854775807:Int)<(s.length:Int)+1+((decN m).length:Int):=by omega
 have hdm:decI (m:Int)=decN m:=by unfold decI;rw[Yrt (by omega),Yrz]
 have hldm:(ds m).length<1152921504606846976:=by omega
 have K5:Keeps h N h5 n5:=((((kB.trans k1).trans k2).trans k3).trans k4).trans k5
 by_cases hm1:m=1
 ·obtain⟨rfl,rfl⟩:=hd1.1 hm1
  rw[Yrw hm1]
  clear hsl hnl hdl b1 b2 hldm ld3
  simp(disch:=first|(simp;done)|omega|rfl) [-getElem?_pos,ld,p1,p3,p4,splice,Ret,Zag]
  exact K5
 ·rw[Yrt hm1]
  by_cases hL1:L=1
  ·have he1:¬e=1:=fun hc=>hm1 (hd1.2 ⟨hL1,hc⟩)
   have he2:¬(e:Int)=1:=by omega
   subst hL1
   clear hsl hnl hdl
   simp(disch:=first|(simp;done)|omega|rfl) [-getElem?_pos,ld,p1,p3,p4,splice,Ret,Zag,he1,he2,Zbo,hmx,b1]
   refine Zac (Zbz (b:=false) (n:=m) hd5 (Zce _) (Zbg _) hldm) ?_
   rintro v6 h6 n6 k6 q6
   have q7:Rg h6 n6 v6 (m:Int):=by simpa using q6
   simp(disch:=first|(simp;done)|omega|rfl) [-getElem?_pos,]
   refine Zac (Zhr q7 (by rw[Yrz,hL];exact ld3)) ?_
   rintro _ h7 n7 k7 rfl
   rw[hdm]
   simp(disch:=first|(simp;done)|omega|rfl) [-getElem?_pos,Zbo,hmx,b2,Ret]
   exact(K5.trans k6).trans k7
  ·have hL2:¬(L:Int)=1:=by omega
   clear hsl hnl hdl
   simp(disch:=first|(simp;done)|omega|rfl) [-getElem?_pos,ld,hL1,hL2,splice,Ret,Zag,Zbo,hmx,b1]
   refine Zac (Zbz (b:=false) (n:=m) hd5 (Zce _) (Zbg _) hldm) ?_
   rintro v6 h6 n6 k6 q6
   have q7:Rg h6 n6 v6 (m:Int):=by simpa using q6
   simp(disch:=first|(simp;done)|omega|rfl) [-getElem?_pos,]
   refine Zac (Zhr q7 (by rw[Yrz,hL];exact ld3)) ?_
   rintro _ h7 n7 k7 rfl
   rw[hdm]
   simp(disch:=first|(simp;done)|omega|rfl) [-getElem?_pos,Zbo,hmx,b2,Ret]
   exact(K5.trans k6).trans k7
def Zm9(hx:Rg h N x a)(hy:Rg h N y b)(hb:b≠0)(l3:(ds a.natAbs).length<100000000000)(l4:(ds b.natAbs).length<100000000000):Fn A.C 65 [x,y] h N (fun u _ _=>u=.str (Zas (Rat.divInt a b))):=by
 rcases Int.lt_or_gt_of_ne hb with hb|hb
 ·exact Zrr hx hy hb l3 l4
 ·exact Zrq hx hy hb l3 l4
def A.w111:=A.q Tryz.f111
def A.lb111_0:=A.ql A.w111 0 []
def A.b111:=(fun x0=>A.qb A.w111 [x0]) A.lb111_0
def A.k111:=@A.kk 111 12 [.tmp 4] A.b111 (by kernel_rfl) rfl
def Ych{a b:Nat}{st:St}(ha:a<9223372036854775808)(hb:b<9223372036854775808):A.C.call (.func 111 [] []) [.int .i64 a,.int .i64 b] st=some (.int .i64 (Nat.gcd a b:Nat),st):=by
 apply Call.eq
 rw[Zaf,A.k111 (by simp)]
 simp(disch:=first|(simp;done)|omega|rfl) [-getElem?_pos,A.b111]
 refine Zak [(0,1),(5,10)] (fun e r s1=>s1=⟨st.h,st.n,[]⟩∧e=.exit 0∧r.get 0=some (.int .i64 (Nat.gcd a b:Nat))) (fun q r s1=>s1=⟨st.h,st.n,[]⟩∧q<9223372036854775808∧r.get 1=some (.int .i64 q)∧∃k:Nat,k<9223372036854775808∧r.get 0=some (.int .i64 k)∧Nat.gcd k q=Nat.gcd a b) b ?_ ?_ ?_
 ·exact⟨rfl,hb,by simp,a,ha,by simp,rfl⟩
 ·rintro q r _ hr hf ⟨rfl,hq,h1,k,hk,h0,hg⟩
  rw[Zai]
  by_cases hz:q=0
  ·subst hz
   rw[Nat.gcd_zero_right]at hg
   simp(disch:=first|(simp;done)|omega|rfl) [-getElem?_pos,A.lb111_0,hr,hf,h0,h1,hg]
  ·have i1:(0:Int)<(q:Int):=by omega
   have i2:0<q:=by omega
   have i3:¬(q:Int)=0:=by omega
   have t1:(k:Int).tmod q=((k%q:Nat):Int):=by rw[Ytm (by omega)];omega
   have t2:Zap .i64 ((k%q:Nat):Int)=((k%q:Nat):Int):=Zah (by omega) (by have:=Ys2 k i2;omega)
   have hlt:=Ys2 k i2
   simp(disch:=first|(simp;done)|omega|rfl) [-getElem?_pos,A.lb111_0,hr,hf,h0,h1,i1,i2,i3,hz,t1,t2,Zal.chk]
   exact⟨k%q,hlt,by omega,by simp,q,hq,rfl,by rw[←hg,Nat.gcd_comm k q,Nat.gcd_rec q k,Nat.gcd_comm]⟩
 ·rintro _ r _ hr ⟨rfl,rfl,h0⟩
  simp(disch:=first|(simp;done)|omega|rfl) [-getElem?_pos,hr,h0]
end
end Go.Mx
