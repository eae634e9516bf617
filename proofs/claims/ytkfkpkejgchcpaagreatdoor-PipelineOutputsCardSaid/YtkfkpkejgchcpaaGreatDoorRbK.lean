/-lensletref01-/
import Derived.Test.YtkfkpkejgchcpaaGreatDoorRbH
set_option linter.all false
namespace Go.Mx
open Go Go.Proofs
variable {s:Str}
set_option maxRecDepth 1000000
def A.b79:Zah:=sr [ge 2 (.alloc [.bool false,.nilslice] 176),ge 3 (.alloc [.bool false,.nilslice] 176)]
 (sr [mv 6 0,mv 4 6]
 (sr [mv 7 4,c1 8 77 7,mv 5 8]
 (.seq (sr [mv 9 5,mv 10 4,ge 11 (.len 0 (tq 10)),ge 12 (.bin .eql (.prim .int) false (tq 9) (tq 11))]
 (cd 12
 (sr [mv 13 4,c1 14 146 13,ge 15 (.call (fq 147) [.const (.int .i64 1)]),gn (.store 2 (tq 2) (tq 14)),gn (.store 2 (tq 3) (tq 15))]
 (.ret))
 (.skip)))
 (.seq (.regD [mv 16 4,mv 17 5,ge 18 (.sliceStr (tq 16) none (some (tq 17))),c1 19 146 18,mv 20 4,mv 21 5,bc 22 .add 21 1,ge 23 (.sliceStr (tq 20) (some (tq 22)) none),c1 24 146 23,gn (.store 2 (tq 2) (tq 19)),gn (.store 2 (tq 3) (tq 24))] [0,0,3,7,0,0,32,112,255,511,1023])
 (.ret)))))
def A.k79:=@A.kk 79 25 [.cell 2 (some 2),.cell 3 (some 2)] A.b79 (by kernel_rfl) rfl
def A.b40:Zah:=sr [mc 2 0]
 (sr [mv 8 0,mv 3 8]
 (.seq (sr [mv 9 3,ge 10 (.len 0 (tq 9)),bc 11 .gtr 10 0,mv 12 11,mg 13 3 12,gy 14 12 (.idxStr (tq 13) (kq 0)),gy 15 12 (.bin .eql (.prim .int) true (tq 14) (.const (.int .u8 45))),pf 16 12 15]
 (cd 16
 (.reg [mv 17 3,ge 18 (.sliceStr (tq 17) (some (kq 1)) none),mv 3 18])
 (.skip)))
 (sr [mv 19 3,c1 20 77 19,mv 4 20]
 (.seq (sr [mv 21 3,mv 22 4,ge 23 (.sliceStr (tq 21) none (some (tq 22))),c1 24 78 23,ge 25 (.un .not (tq 24)),mv 26 25,mh 27 0 26,gz 28 26 (.idxStr (tq 27) (kq 0)),gz 29 26 (.bin .eql (.prim .int) true (tq 28) (.const (.int .u8 45))),mh 30 29 26,mg 31 3 30,mg 32 4 30,gy 33 30 (.sliceStr (tq 31) none (some (tq 32))),gy 34 30 (.bin .eql (.prim .str) true (tq 33) (.const (.str [48]))),gz 35 26 (.pick (tq 30) (tq 34) (.const (.bool false))),pt 36 26 35]
 (cd 36
 (sr [mc 2 1]
 (.ret))
 (.skip)))
 (.seq (sr [mv 37 4,mv 38 3,ge 39 (.len 0 (tq 38)),bi 40 .lss 37 39,mv 41 40,mg 42 3 41,mg 43 4 41,gy 44 41 (.bin .add (.node []) false (tq 43) (kq 1)),gy 45 41 (.sliceStr (tq 42) (some (tq 44)) none),gy 46 41 (.call (fq 78) [tq 45]),gy 47 41 (.un .not (tq 46)),mg 48 47 41,mh 49 3 48,mh 50 4 48,gz 51 48 (.bin .add (.node []) false (tq 50) (kq 1)),gz 52 48 (.sliceStr (tq 49) (some (tq 51)) none),gz 53 48 (.bin .eql (.prim .str) true (tq 52) (.const (.str [48]))),gy 54 41 (.pick (tq 48) (.const (.bool true)) (tq 53)),mg 55 54 41,mh 56 3 55,mh 57 4 55,gz 58 55 (.bin .add (.node []) false (tq 57) (kq 1)),gz 59 55 (.sliceStr (tq 56) (some (tq 58)) none),gz 60 55 (.bin .eql (.prim .str) true (tq 59) (.const (.str [49]))),gy 61 41 (.pick (tq 55) (.const (.bool true)) (tq 60)),pf 62 41 61]
 (cd 62
 (sr [mc 2 1]
 (.ret))
 (.skip)))
 (.seq (sr [mv 63 4,bc 64 .gtr 63 600,mv 65 64,mh 66 3 65,gz 67 65 (.len 0 (tq 66)),mh 68 4 65,gz 69 65 (.bin .sub (.node []) false (tq 67) (tq 68)),gz 70 65 (.bin .sub (.node []) false (tq 69) (kq 1)),gz 71 65 (.bin .gtr (.node []) false (tq 70) (kq 600)),pt 72 65 71]
 (cd 72
 (sr [mc 2 4]
 (.ret))
 (.skip)))
 (.seq (sr [mv 73 4,mv 74 3,ge 75 (.len 0 (tq 74)),bi 76 .lss 73 75]
 (cd 76
 (sr [mv 78 3,c1 79 79 78,mv 77 79,xt 80 77 0,xt 81 77 1,ge 5 (.alloc [.bool false,.nilslice] 176),ge 6 (.alloc [.bool false,.nilslice] 176),gn (.store 2 (tq 5) (tq 80)),gn (.store 2 (tq 6) (tq 81))]
 (sr [fa 82 1 5,ld 83 82,fa 84 1 6,ld 85 84,c2 86 80 83 85,mv 7 86]
 (sr [mv 87 7,ln 88 87,ni 89 88 1,mv 90 89,mh 91 7 90,gz 92 90 (.iaddrSl 1 (tq 91) (kq 0)),gz 93 90 (.load none (tq 92)),gz 94 90 (.bin .neq (.prim .int) true (tq 93) (kq 1)),pt 95 90 94]
 (cd 95
 (sr [mc 2 1]
 (.ret))
 (.skip)))))
 (.skip)))
 (sr [mc 2 0]
 (.ret)))))))))
def A.k40:=@A.kk 40 96 [.tmp 2] A.b40 (by kernel_rfl) rfl
def Zqv(hk:slashAt s<s.length)(hp:Zb8 (s.take (slashAt s))=true)(hd:Zb8 (s.drop (slashAt s+1))=true)(p1:1≤(s.take (slashAt s)).length)(d1:1≤(s.drop (slashAt s+1)).length)(hl:s.length≤100000){h:T O}{N:Nat}:Fn A.C 79 [.str s] h N (fun v h' n'=>∃x y,v=.tup [.agg [.bool false,x],.agg [.bool false,y]]∧Dn h' n' x (numV (s.take (slashAt s)))∧Dn h' n' y (numV (s.drop (slashAt s+1)))):=by
 intro w
 rw[Zac,A.k79 (by simp)]
 have hsl:=fun st=>Ze6 (s:=s) (st:=st) (by omega)
 have c1:¬((slashAt s:Int)=(s.length:Int)):=by omega
 have c2:¬(slashAt s=s.length):=by omega
 have c3:(slashAt s:Int)≤(s.length:Int):=by omega
 have c4:(slashAt s:Int)+1≤(s.length:Int):=by omega
 have c5:((slashAt s:Int)+1).toNat=slashAt s+1:=by omega
 simp[A.b79,hsl,c1,c2,c3,c4,c5,Zae,evOpt]
 refine Zaf (Zlu hp p1 (by simp;omega)) ?_
 rintro v1 h1 n1 k1 ⟨x,rfl,hx⟩
 have nx:¬((numV (s.take (slashAt s)):Nat):Int)<0:=by omega
 simp(disch:=omega) [hsl,c1,c2,c3,c4,c5,Zae,evOpt,nx]
 refine Zaf (Zlu hd d1 (by simp;omega)) ?_
 rintro v2 h2 n2 k2 ⟨y,rfl,hy⟩
 have ny:¬((numV (s.drop (slashAt s+1)):Nat):Int)<0:=by omega
 have kle1:=k1.le
 have kle2:=k2.le
 have hx:=Dn.keep hx k2
 have r0:=(k2.get N (by omega)).trans (k1.get N (by omega))
 have r1:=(k2.get (N+1) (by omega)).trans (k1.get (N+1) (by omega))
 simp at r0 r1
 have nint:∀u∈([.bool false,.nilslice]:List V),∀k n,u≠V.int k n:=by intro u hu k n;simp at hu;rcases hu with rfl|rfl<;>simp
 have hxo:=(Sl.form hx).one
 have hyo:=(Sl.form hy).one
 unfold V.one at hxo hyo
 have d1':N<n1:=by omega
 have d2':N<n2:=by omega
 have d3':N+1<n2:=by omega
 have d4':¬N+1=N:=by omega
 simp[r0,r1,ny,nx,splice,Zal,hxo,hyo,d1',d2',d3',Zam,slc,Zao.chk,Ret]
 have hx1:=Sl.setInt (i:=N) (c1:=[.bool false,x]) (e1:=176) (w1:=true) hx r0 nint rfl
 have hy1:=Sl.setInt (i:=N) (c1:=[.bool false,x]) (e1:=176) (w1:=true) hy r0 nint rfl
 have r1':(h2.set N (.cells [.bool false,x] 176 true)).get (N+1)=some (.cells [.bool false,.nilslice] 176 true):=by rw[T.get_set,Yr3 (by omega)];exact r1
 have hx2:=Sl.setInt (i:=N+1) (c1:=[.bool false,y]) (e1:=176) (w1:=true) hx1 r1' nint rfl
 have hy2:=Sl.setInt (i:=N+1) (c1:=[.bool false,y]) (e1:=176) (w1:=true) hy1 r1' nint rfl
 have k0:=((Keeps.refl (h:=h) (n:=N)).new (.cells [.bool false,.nilslice] 176 true)).new (.cells [.bool false,.nilslice] 176 true)
 exact⟨(((k0.trans k1).trans k2).set (Yr4 N)).set (by omega),x,y,⟨rfl,rfl⟩,hx2,hy2⟩
def Zho{s:Str}(h:Zcy s=true):Zb8 s=true∧1≤s.length:=by
 cases s with
 |nil=>cases h
 |cons c s=>
  unfold Zcy at h
  rw[Ysp]at h
  exact⟨h.1,by simp⟩
def Yom:ds 1=[1]:=by rw[Zha (by decide),Zcn];rfl
def Zvm(h:Zb8 s=true)(hl:s.length≤100000):(ds (numV s)).length<1000000000000:=by
 have h1:=Zd9 h
 have h2:(10:Nat)^s.length≤1000000000^s.length:=Yu2 (by decide) _
 have:=Zfo (n:=numV s) (k:=s.length) (by omega)
 omega
def Zqy{s:Str}(hl:s.length≤100000){h:T O}{N:Nat}:Fn A.C 40 [.str s] h N (fun v _ _=>v=.int .i64 (chkNum s:Nat)):=by
 intro w
 rw[Zac,A.k40 (by simp)]
 cases s with
 |nil=>
  have hsl:=fun st=>Ze6 (s:=[]) (st:=st) (by simp)
  have hdec:=fun st=>Zfp (s:=[]) (st:=st) (by simp)
  simp[A.b40,hsl,slashAt,evOpt,hdec,Zcy,Ret]
  exact⟨Keeps.refl,rfl⟩
 |cons c t=>
  by_cases h45:u8I c=45
  ·have hneg:chkNum (c::t)=Zkf true (t.take (slashAt t)) (decide (slashAt t<t.length)) (t.drop (slashAt t+1)):=by
    have:c.toNat=45:=by unfold u8I at h45;omega
    simp[chkNum,Yma,negS,Zar,this]
   rw[hneg]
   have hfirst:(0:Int)<(t.length:Int)+1:=by omega
   have hsl:=fun st=>Ze6 (s:=t) (st:=st) (by simp at hl;omega)
   have hdec:=fun st=>Zfp (s:=t.take (slashAt t)) (st:=st) (by simp at hl ⊢;omega)
   have hlk:(slashAt t:Int)≤(t.length:Int):=by have:=Zdd t;omega
   have hlk2:slashAt t≤t.length:=Zdd t
   have hpl:(t.take (slashAt t)).length=slashAt t:=by simp;omega
   have hdl:(t.drop (slashAt t+1)).length=t.length-(slashAt t+1):=by simp
   have hhead:=h45
   have hc0:=h45
   have hbt:=h45
   simp at hl
   generalize hp:t.take (slashAt t)=p at*
   generalize hdq:t.drop (slashAt t+1)=d at*
   by_cases hA:Zcy p=true
   ·by_cases hz:p=[48]
    ·have e1:(p==[48])=true:=by simp[hz]
     simp(disch:=first|(simp;done)|omega|(simp only[Zaa,Zab,Yr2];omega)|rfl) [A.b40,hfirst,hsl,hdec,hlk,hlk2,hp,hdq,evOpt,Zae,hhead,hc0,hbt,hA,e1,Ret]
     exact⟨Keeps.refl,by simp[Zkf,Zcc,hz]⟩
    ·have e1:(p==[48])=false:=by simp[hz]
     by_cases hbr:slashAt t<t.length
     ·have hbr':(slashAt t:Int)<(t.length:Int):=by omega
      have hdd:=fun st=>Zfp (s:=d) (st:=st) (by omega)
      by_cases hD:Zcy d=true
      ·by_cases h48:d=[48]
       ·have e8:(d==[48])=true:=by simp[h48]
        simp(disch:=first|(simp;done)|omega|(simp only[Zaa,Zab,Yr2];omega)|rfl) [A.b40,hfirst,hsl,hdec,hlk,hlk2,hp,hdq,evOpt,Zae,hhead,hc0,hbt,hA,e1,hbr,hbr',hdd,hD,e8,Ret]
        exact⟨Keeps.refl,by simp[Zkf,Zcc,h48]⟩
       ·have e8:(d==[48])=false:=by simp[h48]
        by_cases h49:d=[49]
        ·have e9:(d==[49])=true:=by simp[h49]
         simp(disch:=first|(simp;done)|omega|(simp only[Zaa,Zab,Yr2];omega)|rfl) [A.b40,hfirst,hsl,hdec,hlk,hlk2,hp,hdq,evOpt,Zae,hhead,hc0,hbt,hA,e1,hbr,hbr',hdd,hD,e8,e9,Ret]
         exact⟨Keeps.refl,by simp[Zkf,Zcc,h49]⟩
        ·have e9:(d==[49])=false:=by simp[h49]
         have hform:Zcc true p true d=true:=by simp[Zcc,hA,hD,h48,h49,hz]
         by_cases b6:600<p.length
         ·have b6':(600:Int)<(slashAt t:Int):=by omega
          simp(disch:=first|(simp;done)|omega|(simp only[Zaa,Zab,Yr2];omega)|rfl) [A.b40,hfirst,hsl,hdec,hlk,hlk2,hp,hdq,evOpt,Zae,hhead,hc0,hbt,hA,e1,hbr,hbr',hdd,hD,e8,e9,b6',Ret]
          exact⟨Keeps.refl,by simp[Zkf,hform,b6]⟩
         ·have b6':¬(600:Int)<(slashAt t:Int):=by omega
          by_cases b7:600<d.length
          ·have b7':(600:Int)<(t.length:Int)-(slashAt t:Int)-1:=by omega
           simp(disch:=first|(simp;done)|omega|(simp only[Zaa,Zab,Yr2];omega)|rfl) [A.b40,hfirst,hsl,hdec,hlk,hlk2,hp,hdq,evOpt,Zae,hhead,hc0,hbt,hA,e1,hbr,hbr',hdd,hD,e8,e9,b6',b7',Ret]
           exact⟨Keeps.refl,by simp[Zkf,hform,b6,b7]⟩
          ·have b7':¬(600:Int)<(t.length:Int)-(slashAt t:Int)-1:=by omega
           obtain⟨pa,pb⟩:=Zho hA
           obtain⟨da,db⟩:=Zho hD
           simp(disch:=first|(simp;done)|omega|(simp only[Zaa,Zab,Yr2];omega)|rfl) [A.b40,hfirst,hsl,hdec,hlk,hlk2,hp,hdq,evOpt,Zae,hhead,hc0,hbt,hA,e1,hbr,hbr',hdd,hD,e8,e9,b6',b7']
           refine Zaf (Zqv hbr (by rw[hp];exact pa) (by rw[hdq];exact da) (by rw[hp];exact pb) (by rw[hdq];exact db) (by omega)) ?_
           rintro v1 h1 n1 k1 ⟨x,y,rfl,hx,hy⟩
           rw[hp]at hx
           rw[hdq]at hy
           have hxo:=(Sl.form hx).one
           have hyo:=(Sl.form hy).one
           unfold V.one at hxo hyo
           have kx:=((((Keeps.refl (h:=h1) (n:=n1)).new (.cells [.bool false,.nilslice] 176 true)).new (.cells [.bool false,.nilslice] 176 true)).set (i:=n1) (o:=.cells [.bool false,x] 176 true) (Yr4 n1)).set (i:=n1+1) (o:=.cells [.bool false,y] 176 true) (by omega)
           simp[splice,Zal,hxo,hyo]
           refine Zaf (Zj5 (hx.keep kx) (hy.keep kx) (Zvm pa (by omega)) (Zvm da (by omega))) ?_
           rintro z h2 n2 k2 hz2
           have kk:=(k1.trans kx).trans k2
           have lz:=hz2.len
           rw[Zat]at lz
           have wok:¬n1<N:=by have:=k1.le;omega
           have wok2:¬n1+1<N:=by have:=k1.le;omega
           generalize hG:Nat.gcd (numV p) (numV d)=G at*
           by_cases g1:G=1
           ·subst g1
            rw[Yom]at lz
            obtain⟨b1,b2,b3,b4,b5,z1,z2,z3,z4⟩:=Sl.at (show Sl h2 n2 z (dI [1]) from Yom▸hz2) (j:=0) (x:=.int .i64 1) rfl
            simp at z4
            simp[lz,z1,z3,z4,Zae,Ret,wok,wok2]
            exact⟨kk,by simp[Zkf,hform,b6,b7,hG]⟩
           ·have hres:Zkf true p true d=1:=by simp[Zkf,hform,b6,b7,hG,g1]
            by_cases g2:(ds G).length=1
            ·obtain⟨gx,hgx⟩:=Zag (l:=ds G) (k:=0) (by omega)
             obtain⟨b1,b2,b3,b4,b5,z1,z2,z3,z4⟩:=Sl.at (show Sl h2 n2 z (dI (ds G)) from hz2) (Zbe hgx)
             simp at z4
             have gne:¬gx=1:=fun hc=>g1 (by
              have hv:=Zbb G
              rw[Zzj hgx,Ytd (by omega)]at hv
              simp[vI,pI]at hv
              omega)
             simp[lz,g2,z1,z3,z4,gne,Zae,Ret,wok,wok2,hres]
             exact kk
            ·have g2':¬((ds G).length:Int)=1:=by omega
             simp[lz,g2,g2',Zae,Ret,wok,wok2,hres]
             exact kk
      ·have hD:Zcy d=false:=by simpa using hD
       simp(disch:=first|(simp;done)|omega|(simp only[Zaa,Zab,Yr2];omega)|rfl) [A.b40,hfirst,hsl,hdec,hlk,hlk2,hp,hdq,evOpt,Zae,hhead,hc0,hbt,hA,e1,hbr,hbr',hdd,hD,Ret]
       exact⟨Keeps.refl,by simp[Zkf,Zcc,hD]⟩
     ·have hbr2:slashAt t=t.length:=by omega
      have hbr':¬(slashAt t:Int)<(t.length:Int):=by omega
      have hform:Zcc true p false d=true:=by simp[Zcc,hA,hz]
      have dl0:¬600<d.length:=by omega
      have b7':¬(600:Int)<(t.length:Int)-(slashAt t:Int)-1:=by omega
      by_cases b6:600<p.length
      ·have b6':(600:Int)<(slashAt t:Int):=by omega
       simp(disch:=first|(simp;done)|omega|(simp only[Zaa,Zab,Yr2];omega)|rfl) [A.b40,hfirst,hsl,hdec,hlk,hlk2,hp,hdq,evOpt,Zae,hhead,hc0,hbt,hA,e1,hbr,hbr',b6',Ret]
       exact⟨Keeps.refl,by simp[Zkf,hform,b6]⟩
      ·have b6':¬(600:Int)<(slashAt t:Int):=by omega
       simp(disch:=first|(simp;done)|omega|(simp only[Zaa,Zab,Yr2];omega)|rfl) [A.b40,hfirst,hsl,hdec,hlk,hlk2,hp,hdq,evOpt,Zae,hhead,hc0,hbt,hA,e1,hbr,hbr',b6',b7',Ret]
       exact⟨Keeps.refl,by simp[Zkf,hform,b6,dl0]⟩
   ·have hA:Zcy p=false:=by simpa using hA
    simp(disch:=first|(simp;done)|omega|(simp only[Zaa,Zab,Yr2];omega)|rfl) [A.b40,hfirst,hsl,hdec,hlk,hlk2,hp,hdq,evOpt,Zae,hhead,hc0,hbt,hA,Ret]
    exact⟨Keeps.refl,by simp[Zkf,Zcc,hA]⟩
  ·have hsn:negS (c::t)=false:=by
    simp only[negS,decide_eq_false_iff_not];unfold u8I at h45;omega
   obtain⟨t,ht⟩:∃t',t'=c::t:=⟨c::t,rfl⟩
   rw[←ht]at hl hsn ⊢
   have hc0:t[0]?=some c:=by rw[ht];rfl
   have hhead:t.head?=some c:=by rw[ht];rfl
   have hlen:0<t.length:=by rw[ht];simp
   have hbt:t≠[]:=by rw[ht];simp
   have hlen':(0:Int)<(t.length:Int):=by omega
   have hfirst:0<t.length:=hlen
   clear ht
   have hneg:chkNum t=Zkf false (t.take (slashAt t)) (decide (slashAt t<t.length)) (t.drop (slashAt t+1)):=by
    simp[chkNum,Yma,Zar,hsn]
   rw[hneg]
   have hsl:=fun st=>Ze6 (s:=t) (st:=st) (by omega)
   have hdec:=fun st=>Zfp (s:=t.take (slashAt t)) (st:=st) (by simp;omega)
   have hlk:(slashAt t:Int)≤(t.length:Int):=by have:=Zdd t;omega
   have hlk2:slashAt t≤t.length:=Zdd t
   have hpl:(t.take (slashAt t)).length=slashAt t:=by simp;omega
   have hdl:(t.drop (slashAt t+1)).length=t.length-(slashAt t+1):=by simp
   generalize hp:t.take (slashAt t)=p at*
   generalize hdq:t.drop (slashAt t+1)=d at*
   by_cases hA:Zcy p=true
   ·have e1:True:=trivial
    by_cases hbr:slashAt t<t.length
    ·have hbr':(slashAt t:Int)<(t.length:Int):=by omega
     have hdd:=fun st=>Zfp (s:=d) (st:=st) (by omega)
     by_cases hD:Zcy d=true
     ·by_cases h48:d=[48]
      ·have e8:(d==[48])=true:=by simp[h48]
       simp(disch:=first|(simp;done)|omega|(simp only[Zaa,Zab,Yr2];omega)|rfl) [-getElem?_pos,A.b40,hfirst,hsl,hdec,hlk,hlk2,hp,hdq,evOpt,Zae,hhead,hc0,hbt,h45,hlen',hA,e1,hbr,hbr',hdd,hD,e8,Ret]
       exact⟨Keeps.refl,by simp[Zkf,Zcc,h48]⟩
      ·have e8:(d==[48])=false:=by simp[h48]
       by_cases h49:d=[49]
       ·have e9:(d==[49])=true:=by simp[h49]
        simp(disch:=first|(simp;done)|omega|(simp only[Zaa,Zab,Yr2];omega)|rfl) [-getElem?_pos,A.b40,hfirst,hsl,hdec,hlk,hlk2,hp,hdq,evOpt,Zae,hhead,hc0,hbt,h45,hlen',hA,e1,hbr,hbr',hdd,hD,e8,e9,Ret]
        exact⟨Keeps.refl,by simp[Zkf,Zcc,h49]⟩
       ·have e9:(d==[49])=false:=by simp[h49]
        have hform:Zcc false p true d=true:=by simp[Zcc,hA,hD,h48,h49]
        by_cases b6:600<p.length
        ·have b6':(600:Int)<(slashAt t:Int):=by omega
         simp(disch:=first|(simp;done)|omega|(simp only[Zaa,Zab,Yr2];omega)|rfl) [-getElem?_pos,A.b40,hfirst,hsl,hdec,hlk,hlk2,hp,hdq,evOpt,Zae,hhead,hc0,hbt,h45,hlen',hA,e1,hbr,hbr',hdd,hD,e8,e9,b6',Ret]
         exact⟨Keeps.refl,by simp[Zkf,hform,b6]⟩
        ·have b6':¬(600:Int)<(slashAt t:Int):=by omega
         by_cases b7:600<d.length
         ·have b7':(600:Int)<(t.length:Int)-(slashAt t:Int)-1:=by omega
          simp(disch:=first|(simp;done)|omega|(simp only[Zaa,Zab,Yr2];omega)|rfl) [-getElem?_pos,A.b40,hfirst,hsl,hdec,hlk,hlk2,hp,hdq,evOpt,Zae,hhead,hc0,hbt,h45,hlen',hA,e1,hbr,hbr',hdd,hD,e8,e9,b6',b7',Ret]
          exact⟨Keeps.refl,by simp[Zkf,hform,b6,b7]⟩
         ·have b7':¬(600:Int)<(t.length:Int)-(slashAt t:Int)-1:=by omega
          obtain⟨pa,pb⟩:=Zho hA
          obtain⟨da,db⟩:=Zho hD
          simp(disch:=first|(simp;done)|omega|(simp only[Zaa,Zab,Yr2];omega)|rfl) [-getElem?_pos,A.b40,hfirst,hsl,hdec,hlk,hlk2,hp,hdq,evOpt,Zae,hhead,hc0,hbt,h45,hlen',hA,e1,hbr,hbr',hdd,hD,e8,e9,b6',b7']
          refine Zaf (Zqv hbr (by rw[hp];exact pa) (by rw[hdq];exact da) (by rw[hp];exact pb) (by rw[hdq];exact db) (by omega)) ?_
          rintro v1 h1 n1 k1 ⟨x,y,rfl,hx,hy⟩
          rw[hp]at hx
          rw[hdq]at hy
          have hxo:=(Sl.form hx).one
          have hyo:=(Sl.form hy).one
          unfold V.one at hxo hyo
          have kx:=((((Keeps.refl (h:=h1) (n:=n1)).new (.cells [.bool false,.nilslice] 176 true)).new (.cells [.bool false,.nilslice] 176 true)).set (i:=n1) (o:=.cells [.bool false,x] 176 true) (Yr4 n1)).set (i:=n1+1) (o:=.cells [.bool false,y] 176 true) (by omega)
          simp[splice,Zal,hxo,hyo]
          refine Zaf (Zj5 (hx.keep kx) (hy.keep kx) (Zvm pa (by omega)) (Zvm da (by omega))) ?_
          rintro z h2 n2 k2 hz2
          have kk:=(k1.trans kx).trans k2
          have lz:=hz2.len
          rw[Zat]at lz
          have wok:¬n1<N:=by have:=k1.le;omega
          have wok2:¬n1+1<N:=by have:=k1.le;omega
          generalize hG:Nat.gcd (numV p) (numV d)=G at*
          by_cases g1:G=1
          ·subst g1
           rw[Yom]at lz
           obtain⟨b1,b2,b3,b4,b5,z1,z2,z3,z4⟩:=Sl.at (show Sl h2 n2 z (dI [1]) from Yom▸hz2) (j:=0) (x:=.int .i64 1) rfl
           simp at z4
           simp[lz,z1,z3,z4,Zae,Ret,wok,wok2]
           exact⟨kk,by simp[Zkf,hform,b6,b7,hG]⟩
          ·have hres:Zkf false p true d=1:=by simp[Zkf,hform,b6,b7,hG,g1]
           by_cases g2:(ds G).length=1
           ·obtain⟨gx,hgx⟩:=Zag (l:=ds G) (k:=0) (by omega)
            obtain⟨b1,b2,b3,b4,b5,z1,z2,z3,z4⟩:=Sl.at (show Sl h2 n2 z (dI (ds G)) from hz2) (Zbe hgx)
            simp at z4
            have gne:¬gx=1:=fun hc=>g1 (by
             have hv:=Zbb G
             rw[Zzj hgx,Ytd (by omega)]at hv
             simp[vI,pI]at hv
             omega)
            simp[lz,g2,z1,z3,z4,gne,Zae,Ret,wok,wok2,hres]
            exact kk
           ·have g2':¬((ds G).length:Int)=1:=by omega
            simp[lz,g2,g2',Zae,Ret,wok,wok2,hres]
            exact kk
     ·have hD:Zcy d=false:=by simpa using hD
      simp(disch:=first|(simp;done)|omega|(simp only[Zaa,Zab,Yr2];omega)|rfl) [-getElem?_pos,A.b40,hfirst,hsl,hdec,hlk,hlk2,hp,hdq,evOpt,Zae,hhead,hc0,hbt,h45,hlen',hA,e1,hbr,hbr',hdd,hD,Ret]
      exact⟨Keeps.refl,by simp[Zkf,Zcc,hD]⟩
    ·have hbr2:slashAt t=t.length:=by omega
     have hbr':¬(slashAt t:Int)<(t.length:Int):=by omega
     have hform:Zcc false p false d=true:=by simp[Zcc,hA]
     have dl0:¬600<d.length:=by omega
     have b7':¬(600:Int)<(t.length:Int)-(slashAt t:Int)-1:=by omega
     by_cases b6:600<p.length
     ·have b6':(600:Int)<(slashAt t:Int):=by omega
      simp(disch:=first|(simp;done)|omega|(simp only[Zaa,Zab,Yr2];omega)|rfl) [-getElem?_pos,A.b40,hfirst,hsl,hdec,hlk,hlk2,hp,hdq,evOpt,Zae,hhead,hc0,hbt,h45,hlen',hA,e1,hbr,hbr',b6',Ret]
      exact⟨Keeps.refl,by simp[Zkf,hform,b6]⟩
     ·have b6':¬(600:Int)<(slashAt t:Int):=by omega
      simp(disch:=first|(simp;done)|omega|(simp only[Zaa,Zab,Yr2];omega)|rfl) [-getElem?_pos,A.b40,hfirst,hsl,hdec,hlk,hlk2,hp,hdq,evOpt,Zae,hhead,hc0,hbt,h45,hlen',hA,e1,hbr,hbr',b6',b7',Ret]
      exact⟨Keeps.refl,by simp[Zkf,hform,b6,dl0]⟩
   ·have hA:Zcy p=false:=by simpa using hA
    simp(disch:=first|(simp;done)|omega|(simp only[Zaa,Zab,Yr2];omega)|rfl) [-getElem?_pos,A.b40,hfirst,hsl,hdec,hlk,hlk2,hp,hdq,evOpt,Zae,hhead,hc0,hbt,h45,hlen',hA,Ret]
    exact⟨Keeps.refl,by simp[Zkf,Zcc,hA]⟩
variable {N:Nat} {a b:Int} {h:T O} {x y:V}
def A.b151:Zah:=sr [bx 2 176 0,bx 3 176 1,ge 4 (.mov (.const (.str [])))]
 (.seq (sr [fa 11 0 3,ld 12 11]
 (cd 12
 (.regD [lN 13 2 2,c1 14 205 13,lN 15 2 3,c1 16 205 15,gn (.store 2 (tq 2) (tq 14)),gn (.store 2 (tq 3) (tq 16))] [0,1,0,7,15,31])
 (.skip)))
 (sr [fa 17 1 2,ld 18 17,fa 19 1 3,ld 20 19,c2 21 80 18 20,mv 5 21]
 (sr [fa 23 1 2,ld 24 23,mv 25 5,c2 26 148 24 25,mv 22 26,xt 27 22 0,xt 28 22 1,mv 6 27,mv 7 28]
 (sr [fa 30 1 3,ld 31 30,mv 32 5,c2 33 148 31 32,mv 29 33,xt 34 29 0,xt 35 29 1,mv 8 34,mv 9 35]
 (sr [fa 36 0 2,ld 37 36,mv 38 6,c2 39 197 37 38,c1 40 206 39,mv 10 40]
 (.seq (sr [mv 41 8,ln 42 41,ei 43 42 1,mv 44 43,mg 45 8 44,gy 46 44 (.iaddrSl 1 (tq 45) (kq 0)),gy 47 44 (.load none (tq 46)),gy 48 44 (.bin .eql (.prim .int) true (tq 47) (kq 1)),pf 49 44 48]
 (cd 49
 (sr [mv 50 10,mv 4 50]
 (.ret))
 (.skip)))
 (sr [mv 51 10,ge 52 (.bin .add (.node []) false (tq 51) (.const (.str [47]))),mv 53 8,ge 54 (.call (fq 197) [.const (.bool false),tq 53]),c1 55 206 54,bi 56 .add 52 55,mv 4 56]
 (.ret))))))))
def A.k151:=@A.kk 151 57 [.tmp 4] A.b151 (by kernel_rfl) rfl
def Zry(hb:0<b):b.natAbs/Nat.gcd a.natAbs b.natAbs=(Rat.divInt a b).den:=by
 have h:((Rat.divInt a b).den:Int)=((b.natAbs/Nat.gcd a.natAbs b.natAbs:Nat):Int):=by
  rw[Rat.den_divInt,Yr3 (by omega),Int.gcd_comm]
  rfl
 exact(Int.ofNat_inj.1 h).symm
def Zm6(hb:0<b):(if decide (a<0)=true then -((a.natAbs/Nat.gcd a.natAbs b.natAbs:Nat):Int) else ((a.natAbs/Nat.gcd a.natAbs b.natAbs:Nat):Int))=(Rat.divInt a b).num:=by
 rw[Rat.num_divInt,Int.sign_eq_one_of_pos hb,Int.one_mul,Int.gcd_comm]
 have hd:((Int.gcd a b:Nat):Int)∣a:=Int.gcd_dvd_left ..
 have he:Nat.gcd a.natAbs b.natAbs=Int.gcd a b:=rfl
 rw[he,Int.natCast_ediv]
 by_cases ha:a<0
 ·have h1:(a.natAbs:Int)= -a:=by omega
  simp only[ha,decide_true,if_true,h1]
  rw[Int.neg_ediv_of_dvd hd,Int.neg_neg]
 ·have h1:(a.natAbs:Int)=a:=by omega
  simp[ha,h1]
def Yc9{z:Int}:(decI z).length≤9*(ds z.natAbs).length+2:=by
 have:=Znf (n:=z.natAbs)
 unfold decI
 split<;>simp<;>omega
def Yij{m e:Nat}(h0:0<m)(he:m%1000000000=e):m=1↔(ds m).length=1∧e=1:=by
 constructor
 ·rintro rfl
  exact⟨by have:=Yii (r:=1) (by omega);rw[←this];decide,by omega⟩
 ·rintro⟨h1,h2⟩
  have h3:=Zia (Zca m)
  rw[Zbb,h1,Zpp,Nat.pow_one]at h3
  omega
def Zrw(hx:Rg h N x a)(hy:Rg h N y b)(hb:0<b)(l3:(ds a.natAbs).length<100000000000)(l4:(ds b.natAbs).length<100000000000):Fn A.C 151 [x,y] h N (fun u _ _=>u=.str (Za0 (Rat.divInt a b))):=by
 intro w
 obtain⟨u,rfl,hu0⟩:=hx
 obtain⟨v,rfl,hv0⟩:=hy
 have o1:=Sl.form hu0 |>.one
 have o2:=Sl.form hu0 |>.cells
 have o3:=Sl.form hv0 |>.one
 have o4:=Sl.form hv0 |>.cells
 unfold V.one at o1 o3
 unfold V.cells at o2 o4
 have l1:(ds a.natAbs).length<1000000000000:=by omega
 have l2:(ds b.natAbs).length<1000000000000:=by omega
 have hb':¬b<0:=by omega
 rw[show decide (b<0)=false by simp[hb']]
 have kB:=(((Keeps.refl (h:=h) (n:=N)).new (.cells [.bool (decide (a<0)),u] 176 true)).new (.cells [.bool false,v] 176 true))
 have hu:=Sl.keep hu0 kB
 have hv:=Sl.keep hv0 kB
 rw[Zac,A.k151 (by simp)]
 simp[A.b151,o1,o2,o3,o4,splice,Zam,slc,Zae,hb']
 generalize hB:(h.set N (.cells [.bool (decide (a<0)),u] 176 true)).set (N+1) (.cells [.bool false,v] 176 true)=HB at*
 have gN:HB.get N=some (.cells [.bool (decide (a<0)),u] 176 true):=by rw[←hB];simp
 have gM:HB.get (N+1)=some (.cells [.bool false,v] 176 true):=by rw[←hB];simp
 refine Zaf (Zj5 hu hv l1 l2) ?_
 rintro v1 h1 n1 k1 q1
 have gN1:=(k1.get N (by omega)).trans gN
 have gM1:=(k1.get (N+1) (by omega)).trans gM
 have hg0:0<Nat.gcd a.natAbs b.natAbs:=Yvp _ (by omega)
 have lg:(ds (Nat.gcd a.natAbs b.natAbs)).length<1000000000000:=Ys3 (Zcv (Nat.gcd_le_right _ (by omega))) l2
 have le1:=k1.le
 simp[gN1,gM1,o1,o2,o3,o4,splice,Zam,slc]
 refine Zaf (Zmk (hu.keep k1) q1 hg0 l1 lg) ?_
 rintro _ h2 n2 k2 ⟨q,r1,rfl,q2, -⟩
 have gM2:=(k2.get (N+1) (by omega)).trans gM1
 have le2:=k2.le
 simp[gM2,o1,o2,o3,o4,splice,Zam,slc]
 refine Zaf (Zmk ((hv.keep k1).keep k2) (q1.keep k2) hg0 l2 lg) ?_
 rintro _ h3 n3 k3 ⟨d,r2,rfl,q3, -⟩
 have gN3:=(k3.get N (by omega)).trans ((k2.get N (by omega)).trans gN1)
 have le3:=k3.le
 rw[Zry hb]at q3
 have lq:(ds (a.natAbs/Nat.gcd a.natAbs b.natAbs)).length<100000000000:=Ys3 (Zcv (Ytw _ _)) l3
 have ld3:(ds (Rat.divInt a b).den).length<100000000000:=by rw[←Zry hb];exact Ys3 (Zcv (Ytw _ _)) l4
 simp[gN3,o1,o2,o3,o4,splice,Zam,slc]
 refine Zaf (Zbz (n:=a.natAbs/Nat.gcd a.natAbs b.natAbs) (q2.keep k3) (Zca _) (Zbb _) (by omega)) ?_
 rintro v4 h4 n4 k4 q4
 have le4:=k4.le
 rw[Zm6 hb]at q4
 simp[]
 refine Zaf (Zhl q4 (by rw[←Zm6 hb];split<;>(first|rw[Yux,Yr9]|rw[Yr9])<;>exact lq)) ?_
 rintro _ h5 n5 k5 rfl
 have le5:=k5.le
 obtain⟨m,hm⟩:∃m,(Rat.divInt a b).den=m:=⟨_,rfl⟩
 have hm0:0<m:=by rw[←hm];exact Rat.den_pos _
 rw[hm]at q3 ld3
 have hsl:=Yc9 (z:=(Rat.divInt a b).num)
 have hnl:(ds (Rat.divInt a b).num.natAbs).length<100000000000:=by rw[←Zm6 hb];split<;>(first|rw[Yux,Yr9]|rw[Yr9])<;>exact lq
 have htx:Za0 (Rat.divInt a b)=if m=1 then decI (Rat.divInt a b).num else decI (Rat.divInt a b).num++47::decN m:=by unfold Za0;rw[hm]
 rw[htx]
 generalize decI (Rat.divInt a b).num=s at*
 have hd5:Dn h5 n5 d m:=(q3.keep k4).keep k5
 have ld:=Sl.len hd5
 rw[Zat]at ld
 have hpos:(ds m).length≠0:=fun hc=>(by omega:m≠0) (Zdr.1 (Ysh hc))
 have hg:=Zv6 (i:=0) (n:=m) (by omega)
 rw[Yvo,Nat.div_one]at hg
 obtain⟨e,he⟩:∃e,m%1000000000=e:=⟨_,rfl⟩
 rw[he]at hg
 have hd1:m=1↔(ds m).length=1∧e=1:=Yij hm0 he
 obtain⟨i,o,c,te,rw_,p1,p2,p3,p4⟩:=Sl.at hd5 (Zbe hg)
 rw[Ytb]at p4
 obtain⟨L,hL⟩:∃L,(ds m).length=L:=⟨_,rfl⟩
 rw[hL]at ld hd1
 have hdl:=Znf (n:=m)
 rw[hL]at hdl ld3
 have hmx:IntKind.max .i64=9223372036854775807:=rfl
 have b1:¬(9223372036854775807:Int)<(s.length:Int)+1:=by omega
 have b2:¬(9223372036854775807:Int)<(s.length:Int)+1+((decN m).length:Int):=by omega
 have hdm:decI (m:Int)=decN m:=by unfold decI;rw[Yr3 (by omega),Yr9]
 have hldm:(ds m).length<1152921504606846976:=by omega
 have K5:Keeps h N h5 n5:=((((kB.trans k1).trans k2).trans k3).trans k4).trans k5
 by_cases hm1:m=1
 ·obtain⟨rfl,rfl⟩:=hd1.1 hm1
  rw[Yr6 hm1]
  clear hsl hnl hdl b1 b2 hldm ld3
  simp[ld,p1,p3,p4,splice,Ret,Zae]
  exact K5
 ·rw[Yr3 hm1]
  by_cases hL1:L=1
  ·have he1:¬e=1:=fun hc=>hm1 (hd1.2 ⟨hL1,hc⟩)
   have he2:¬(e:Int)=1:=by omega
   subst hL1
   clear hsl hnl hdl
   simp[ld,p1,p3,p4,splice,Ret,Zae,he1,he2,Zbh,hmx,b1]
   refine Zaf (Zbz (b:=false) (n:=m) hd5 (Zca _) (Zbb _) hldm) ?_
   rintro v6 h6 n6 k6 q6
   have q7:Rg h6 n6 v6 (m:Int):=by simpa using q6
   simp[]
   refine Zaf (Zhl q7 (by rw[Yr9,hL];exact ld3)) ?_
   rintro _ h7 n7 k7 rfl
   rw[hdm]
   simp[Zbh,hmx,b2,Ret]
   exact(K5.trans k6).trans k7
  ·have hL2:¬(L:Int)=1:=by omega
   clear hsl hnl hdl
   simp[ld,hL1,hL2,splice,Ret,Zae,Zbh,hmx,b1]
   refine Zaf (Zbz (b:=false) (n:=m) hd5 (Zca _) (Zbb _) hldm) ?_
   rintro v6 h6 n6 k6 q6
   have q7:Rg h6 n6 v6 (m:Int):=by simpa using q6
   simp[]
   refine Zaf (Zhl q7 (by rw[Yr9,hL];exact ld3)) ?_
   rintro _ h7 n7 k7 rfl
   rw[hdm]
   simp[Zbh,hmx,b2,Ret]
   exact(K5.trans k6).trans k7
def Zrx{P Q:Int}(hx:Rg h N x P)(hy:Rg h N y Q)(hB0:Q<0)(l3:(ds P.natAbs).length<100000000000)(l4:(ds Q.natAbs).length<100000000000):Fn A.C 151 [x,y] h N (fun u _ _=>u=.str (Za0 (Rat.divInt P Q))):=by
 intro w
 obtain⟨u0,rfl,hu0⟩:=hx
 obtain⟨v0,rfl,hv0⟩:=hy
 have o1:=Sl.form hu0 |>.one
 have o2:=Sl.form hu0 |>.cells
 have o3:=Sl.form hv0 |>.one
 have o4:=Sl.form hv0 |>.cells
 unfold V.one at o1 o3
 unfold V.cells at o2 o4
 have hx0:Rg h N (.agg [.bool (decide (P<0)),u0]) P:=⟨u0,rfl,hu0⟩
 have hy0:Rg h N (.agg [.bool true,v0]) Q:=⟨v0,by simp[hB0],hv0⟩
 rw[show decide (Q<0)=true by simp[hB0]]
 have kA:=(((Keeps.refl (h:=h) (n:=N)).new (.cells [.bool (decide (P<0)),u0] 176 true)).new (.cells [.bool true,v0] 176 true))
 rw[Zac,A.k151 (by simp)]
 simp[A.b151,o1,o2,o3,o4,splice,Zam,slc,Zae]
 generalize hA:(h.set N (.cells [.bool (decide (P<0)),u0] 176 true)).set (N+1) (.cells [.bool true,v0] 176 true)=HA at*
 have gN0:HA.get N=some (.cells [.bool (decide (P<0)),u0] 176 true):=by rw[←hA];simp
 have gM0:HA.get (N+1)=some (.cells [.bool true,v0] 176 true):=by rw[←hA];simp
 refine Zaf (Zvr (hx0.keep kA) (by omega)) ?_
 rintro _ m1 t1 j1 q1
 obtain⟨a,ha⟩:∃a,a= -P:=⟨_,rfl⟩
 rw[←ha]at q1
 obtain⟨u,rfl,hu1⟩:=q1
 have i1:=j1.le
 have gN1:=(j1.get N (by omega)).trans gN0
 have gM1:=(j1.get (N+1) (by omega)).trans gM0
 simp[gM1,gN1,o1,o2,o3,o4,splice,Zam,slc]
 refine Zaf (Zvr ((hy0.keep kA).keep j1) (by omega)) ?_
 rintro _ m2 t2 j2 q2
 obtain⟨b,hb0⟩:∃b,b= -Q:=⟨_,rfl⟩
 rw[←hb0]at q2
 have hb:0<b:=by omega
 obtain⟨v,rfl,hv2⟩:=q2
 rw[show decide (b<0)=false by simp;omega]
 have hab:Rat.divInt P Q=Rat.divInt a b:=by rw[ha,hb0];exact(Rat.neg_divInt_neg P Q).symm
 rw[hab]
 have n1:=Ym6 (b:=decide (P<0)) (Sl.form hu0)
 have n2:=Ym6 (b:=true) (Sl.form hv0)
 have i2:=j2.le
 have gN2:=(j2.get N (by omega)).trans gN1
 have gM2:=(j2.get (N+1) (by omega)).trans gM1
 have s1:=Sl.form hu1 |>.one
 have s2:=Sl.form hu1 |>.cells
 have s3:=Sl.form hv2 |>.one
 have s4:=Sl.form hv2 |>.cells
 unfold V.one at s1 s3
 unfold V.cells at s2 s4
 have g1:N+1<t1:=by omega
 have g2:N+1<t2:=by omega
 have g3:N<t2:=by omega
 simp[gN2,gM2,s1,s2,s3,s4,splice,Zal,Zam,slc,Zao.chk,g1,g2,g3]
 have gM3:(m2.set N (.cells [.bool (decide (a<0)),u] 176 true)).get (N+1)=some (.cells [.bool true,v0] 176 true):=by rw[T.get_set,Yr3 (by omega)];exact gM2
 have kB:=((((kA.trans j1).trans j2).set (i:=N) (o:=.cells [.bool (decide (a<0)),u] 176 true) (by omega))).set (i:=N+1) (o:=.cells [.bool false,v] 176 true) (by omega)
 have hu:=Sl.setInt (Sl.setInt (hu1.keep j2) gN2 n1 (c1:=[.bool (decide (a<0)),u]) (e1:=176) (w1:=true) rfl) gM3 n2 (c1:=[.bool false,v]) (e1:=176) (w1:=true) rfl
 have hv:=Sl.setInt (Sl.setInt hv2 gN2 n1 (c1:=[.bool (decide (a<0)),u]) (e1:=176) (w1:=true) rfl) gM3 n2 (c1:=[.bool false,v]) (e1:=176) (w1:=true) rfl
 generalize hB:(m2.set N (.cells [.bool (decide (a<0)),u] 176 true)).set (N+1) (.cells [.bool false,v] 176 true)=HB at*
 have gN:HB.get N=some (.cells [.bool (decide (a<0)),u] 176 true):=by rw[←hB];simp
 have gM:HB.get (N+1)=some (.cells [.bool false,v] 176 true):=by rw[←hB];simp
 have ea:a.natAbs=P.natAbs:=by omega
 have eb:b.natAbs=Q.natAbs:=by omega
 rw[←ea]at l3
 rw[←eb]at l4
 have l1:(ds a.natAbs).length<1000000000000:=by omega
 have l2:(ds b.natAbs).length<1000000000000:=by omega
 clear o1 o2 o3 o4
 have o1:=s1
 have o2:=s2
 have o3:=s3
 have o4:=s4
 clear s1 s2 s3 s4 gM3 gN2 gM2 gN1 gM1 gN0 gM0 n1 n2 hA hab
 refine Zaf (Zj5 hu hv l1 l2) ?_
 rintro v1 h1 n1 k1 q1
 have gN1:=(k1.get N (by omega)).trans gN
 have gM1:=(k1.get (N+1) (by omega)).trans gM
 have hg0:0<Nat.gcd a.natAbs b.natAbs:=Yvp _ (by omega)
 have lg:(ds (Nat.gcd a.natAbs b.natAbs)).length<1000000000000:=Ys3 (Zcv (Nat.gcd_le_right _ (by omega))) l2
 have le1:=k1.le
 simp[gN1,gM1,o1,o2,o3,o4,splice,Zam,slc]
 refine Zaf (Zmk (hu.keep k1) q1 hg0 l1 lg) ?_
 rintro _ h2 n2 k2 ⟨q,r1,rfl,q2, -⟩
 have gM2:=(k2.get (N+1) (by omega)).trans gM1
 have le2:=k2.le
 simp[gM2,o1,o2,o3,o4,splice,Zam,slc]
 refine Zaf (Zmk ((hv.keep k1).keep k2) (q1.keep k2) hg0 l2 lg) ?_
 rintro _ h3 n3 k3 ⟨d,r2,rfl,q3, -⟩
 have gN3:=(k3.get N (by omega)).trans ((k2.get N (by omega)).trans gN1)
 have le3:=k3.le
 rw[Zry hb]at q3
 have lq:(ds (a.natAbs/Nat.gcd a.natAbs b.natAbs)).length<100000000000:=Ys3 (Zcv (Ytw _ _)) l3
 have ld3:(ds (Rat.divInt a b).den).length<100000000000:=by rw[←Zry hb];exact Ys3 (Zcv (Ytw _ _)) l4
 simp[gN3,o1,o2,o3,o4,splice,Zam,slc]
 refine Zaf (Zbz (n:=a.natAbs/Nat.gcd a.natAbs b.natAbs) (q2.keep k3) (Zca _) (Zbb _) (by omega)) ?_
 rintro v4 h4 n4 k4 q4
 have le4:=k4.le
 rw[Zm6 hb]at q4
 simp[]
 refine Zaf (Zhl q4 (by rw[←Zm6 hb];split<;>(first|rw[Yux,Yr9]|rw[Yr9])<;>exact lq)) ?_
 rintro _ h5 n5 k5 rfl
 have le5:=k5.le
 obtain⟨m,hm⟩:∃m,(Rat.divInt a b).den=m:=⟨_,rfl⟩
 have hm0:0<m:=by rw[←hm];exact Rat.den_pos _
 rw[hm]at q3 ld3
 have hsl:=Yc9 (z:=(Rat.divInt a b).num)
 have hnl:(ds (Rat.divInt a b).num.natAbs).length<100000000000:=by rw[←Zm6 hb];split<;>(first|rw[Yux,Yr9]|rw[Yr9])<;>exact lq
 have htx:Za0 (Rat.divInt a b)=if m=1 then decI (Rat.divInt a b).num else decI (Rat.divInt a b).num++47::decN m:=by unfold Za0;rw[hm]
 rw[htx]
 generalize decI (Rat.divInt a b).num=s at*
 have hd5:Dn h5 n5 d m:=(q3.keep k4).keep k5
 have ld:=Sl.len hd5
 rw[Zat]at ld
 have hpos:(ds m).length≠0:=fun hc=>(by omega:m≠0) (Zdr.1 (Ysh hc))
 have hg:=Zv6 (i:=0) (n:=m) (by omega)
 rw[Yvo,Nat.div_one]at hg
 obtain⟨e,he⟩:∃e,m%1000000000=e:=⟨_,rfl⟩
 rw[he]at hg
 have hd1:m=1↔(ds m).length=1∧e=1:=Yij hm0 he
 obtain⟨i,o,c,te,rw_,p1,p2,p3,p4⟩:=Sl.at hd5 (Zbe hg)
 rw[Ytb]at p4
 obtain⟨L,hL⟩:∃L,(ds m).length=L:=⟨_,rfl⟩
 rw[hL]at ld hd1
 have hdl:=Znf (n:=m)
 rw[hL]at hdl ld3
 have hmx:IntKind.max .i64=9223372036854775807:=rfl
 have b1:¬(9223372036854775807:Int)<(s.length:Int)+1:=by omega
 have b2:¬(9223372036854775807:Int)<(s.length:Int)+1+((decN m).length:Int):=by omega
 have hdm:decI (m:Int)=decN m:=by unfold decI;rw[Yr3 (by omega),Yr9]
 have hldm:(ds m).length<1152921504606846976:=by omega
 have K5:Keeps h N h5 n5:=((((kB.trans k1).trans k2).trans k3).trans k4).trans k5
 by_cases hm1:m=1
 ·obtain⟨rfl,rfl⟩:=hd1.1 hm1
  rw[Yr6 hm1]
  clear hsl hnl hdl b1 b2 hldm ld3
  simp[ld,p1,p3,p4,splice,Ret,Zae]
  exact K5
 ·rw[Yr3 hm1]
  by_cases hL1:L=1
  ·have he1:¬e=1:=fun hc=>hm1 (hd1.2 ⟨hL1,hc⟩)
   have he2:¬(e:Int)=1:=by omega
   subst hL1
   clear hsl hnl hdl
   simp[ld,p1,p3,p4,splice,Ret,Zae,he1,he2,Zbh,hmx,b1]
   refine Zaf (Zbz (b:=false) (n:=m) hd5 (Zca _) (Zbb _) hldm) ?_
   rintro v6 h6 n6 k6 q6
   have q7:Rg h6 n6 v6 (m:Int):=by simpa using q6
   simp[]
   refine Zaf (Zhl q7 (by rw[Yr9,hL];exact ld3)) ?_
   rintro _ h7 n7 k7 rfl
   rw[hdm]
   simp[Zbh,hmx,b2,Ret]
   exact(K5.trans k6).trans k7
  ·have hL2:¬(L:Int)=1:=by omega
   clear hsl hnl hdl
   simp[ld,hL1,hL2,splice,Ret,Zae,Zbh,hmx,b1]
   refine Zaf (Zbz (b:=false) (n:=m) hd5 (Zca _) (Zbb _) hldm) ?_
   rintro v6 h6 n6 k6 q6
   have q7:Rg h6 n6 v6 (m:Int):=by simpa using q6
   simp[]
   refine Zaf (Zhl q7 (by rw[Yr9,hL];exact ld3)) ?_
   rintro _ h7 n7 k7 rfl
   rw[hdm]
   simp[Zbh,hmx,b2,Ret]
   exact(K5.trans k6).trans k7
def Zm5(hx:Rg h N x a)(hy:Rg h N y b)(hb:b≠0)(l3:(ds a.natAbs).length<100000000000)(l4:(ds b.natAbs).length<100000000000):Fn A.C 151 [x,y] h N (fun u _ _=>u=.str (Za0 (Rat.divInt a b))):=by
 rcases Int.lt_or_gt_of_ne hb with hb|hb
 ·exact Zrx hx hy hb l3 l4
 ·exact Zrw hx hy hb l3 l4
def A.lb203_0:Zah:=.seq (sr [mv 5 1,bc 6 .gtr 5 0]
 (cd 6
 (.skip)
 (.exit 0)))
 (.block 1 (.regD [mv 7 1,mv 8 0,mv 9 1,bi 10 .rem 8 9,mv 0 7,mv 1 10] [0,0,0,6,3,31]))
def A.b203:Zah:=sr [mc 4 0]
 (.seq (.block 0 (.loop A.lb203_0))
 (sr [mv 11 0,mv 4 11]
 (.ret)))
def A.k203:=@A.kk 203 12 [.tmp 4] A.b203 (by kernel_rfl) rfl
def Ycp{a b:Nat}{st:St}(ha:a<9223372036854775808)(hb:b<9223372036854775808):A.C.call (.func 203 [] []) [.int .i64 a,.int .i64 b] st=some (.int .i64 (Nat.gcd a b:Nat),st):=by
 apply Call.eq
 rw[Zac,A.k203 (by simp)]
 simp[A.b203]
 refine Zai [(0,1),(5,10)] (fun e r s1=>s1=⟨st.h,st.n,[]⟩∧e=.exit 0∧r.get 0=some (.int .i64 (Nat.gcd a b:Nat))) (fun q r s1=>s1=⟨st.h,st.n,[]⟩∧q<9223372036854775808∧r.get 1=some (.int .i64 q)∧∃k:Nat,k<9223372036854775808∧r.get 0=some (.int .i64 k)∧Nat.gcd k q=Nat.gcd a b) b ?_ ?_ ?_
 ·exact⟨rfl,hb,by simp,a,ha,by simp,rfl⟩
 ·rintro q r _ hr hf ⟨rfl,hq,h1,k,hk,h0,hg⟩
  rw[Zaj]
  by_cases hz:q=0
  ·subst hz
   rw[Nat.gcd_zero_right]at hg
   simp[A.lb203_0,hr,hf,h0,h1,hg]
  ·have i1:(0:Int)<(q:Int):=by omega
   have i2:0<q:=by omega
   have i3:¬(q:Int)=0:=by omega
   have t1:(k:Int).tmod q=((k%q:Nat):Int):=by rw[Ytx (by omega)];omega
   have t2:Zap .i64 ((k%q:Nat):Int)=((k%q:Nat):Int):=Zak (by omega) (by have:=Ys9 k i2;omega)
   have hlt:=Ys9 k i2
   simp[A.lb203_0,hr,hf,h0,h1,i1,i2,i3,hz,t1,t2,Zao.chk]
   exact⟨k%q,hlt,by omega,by simp,q,hq,rfl,by rw[←hg,Nat.gcd_comm k q,Nat.gcd_rec q k,Nat.gcd_comm]⟩
 ·rintro _ r _ hr ⟨rfl,rfl,h0⟩
  simp[hr,h0]
end Go.Mx
