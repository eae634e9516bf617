/-
  lensletref01: parts, Check.
-/
import Derived.Test.YtppobccilnifoaaGreatDoorRbF
import Derived.Test.YtppobccilnifoaaGreatDoorKaI
set_option linter.all false
namespace Go.Mx
open Go Go.Proofs
set_option maxRecDepth 1000000
def A.b97:MCode:=.seq (.reg [⟨(some 2),.alloc [(.bool false),.nilslice] 203,none⟩,⟨(some 3),.alloc [(.bool false),.nilslice] 203,none⟩])
 (.seq (.reg [mv 6 0,mv 4 6])
 (.seq (.reg [mv 7 4,⟨(some 8),.call (.const (.func 95 [] [])) [(.tmp 7)],none⟩,mv 5 8])
 (.seq (.seq (.reg [mv 9 5,mv 10 4,⟨(some 11),.len 0 (.tmp 10),none⟩,⟨(some 12),.bin .eql (.prim .int) false (.tmp 9) (.tmp 11),none⟩])
 (.cond (.tmp 12)
 (.seq (.reg [mv 13 4,⟨(some 14),.call (.const (.func 158 [] [])) [(.tmp 13)],none⟩,⟨(some 15),.call (.const (.func 159 [] [])) [(.const (.int .i64 1))],none⟩,⟨none,.store 2 (.tmp 2) (.tmp 14),none⟩,⟨none,.store 2 (.tmp 3) (.tmp 15),none⟩])
 (.ret))
 (.skip)))
 (.seq (.regD [mv 16 4,mv 17 5,⟨(some 18),.sliceStr (.tmp 16) none (some (.tmp 17)),none⟩,⟨(some 19),.call (.const (.func 158 [] [])) [(.tmp 18)],none⟩,mv 20 4,mv 21 5,bc 22 .add 21 1,⟨(some 23),.sliceStr (.tmp 20) (some (.tmp 22)) none,none⟩,⟨(some 24),.call (.const (.func 158 [] [])) [(.tmp 23)],none⟩,⟨none,.store 2 (.tmp 2) (.tmp 19),none⟩,⟨none,.store 2 (.tmp 3) (.tmp 24),none⟩] [0,0,3,7,0,0,32,112,255,511,1023])
 (.ret)))))
theorem A.c97:cFunc Tryz.prog 97=some ⟨25,[.cell 2 (some 2),.cell 3 (some 2)],A.b97⟩:=by kernel_rfl
def A.k97{K Q f c args st}:=@A.kk 97 _ _ _ A.c97 rfl K Q f c args st
def A.b54:MCode:=.seq (.reg [mc 2 0])
 (.seq (.reg [mv 8 0,mv 3 8])
 (.seq (.seq (.reg [mv 9 3,⟨(some 10),.len 0 (.tmp 9),none⟩,bc 11 .gtr 10 0,mv 12 11,⟨(some 13),.mov (.tmp 3),(some (12,true))⟩,⟨(some 14),.idxStr (.tmp 13) (.const (.int .i64 0)),(some (12,true))⟩,⟨(some 15),.bin .eql (.prim .int) true (.tmp 14) (.const (.int .u8 45)),(some (12,true))⟩,⟨(some 16),.pick (.tmp 12) (.tmp 15) (.const (.bool false)),none⟩])
 (.cond (.tmp 16)
 (.reg [mv 17 3,⟨(some 18),.sliceStr (.tmp 17) (some (.const (.int .i64 1))) none,none⟩,mv 3 18])
 (.skip)))
 (.seq (.reg [mv 19 3,⟨(some 20),.call (.const (.func 95 [] [])) [(.tmp 19)],none⟩,mv 4 20])
 (.seq (.seq (.reg [mv 21 3,mv 22 4,⟨(some 23),.sliceStr (.tmp 21) none (some (.tmp 22)),none⟩,⟨(some 24),.call (.const (.func 96 [] [])) [(.tmp 23)],none⟩,⟨(some 25),.un .not (.tmp 24),none⟩,mv 26 25,⟨(some 27),.mov (.tmp 0),(some (26,false))⟩,⟨(some 28),.idxStr (.tmp 27) (.const (.int .i64 0)),(some (26,false))⟩,⟨(some 29),.bin .eql (.prim .int) true (.tmp 28) (.const (.int .u8 45)),(some (26,false))⟩,⟨(some 30),.mov (.tmp 29),(some (26,false))⟩,⟨(some 31),.mov (.tmp 3),(some (30,true))⟩,⟨(some 32),.mov (.tmp 4),(some (30,true))⟩,⟨(some 33),.sliceStr (.tmp 31) none (some (.tmp 32)),(some (30,true))⟩,⟨(some 34),.bin .eql (.prim .str) true (.tmp 33) (.const (.str [48])),(some (30,true))⟩,⟨(some 35),.pick (.tmp 30) (.tmp 34) (.const (.bool false)),(some (26,false))⟩,⟨(some 36),.pick (.tmp 26) (.const (.bool true)) (.tmp 35),none⟩])
 (.cond (.tmp 36)
 (.seq (.reg [mc 2 1])
 (.ret))
 (.skip)))
 (.seq (.seq (.reg [mv 37 4,mv 38 3,⟨(some 39),.len 0 (.tmp 38),none⟩,bi 40 .lss 37 39,mv 41 40,⟨(some 42),.mov (.tmp 3),(some (41,true))⟩,⟨(some 43),.mov (.tmp 4),(some (41,true))⟩,⟨(some 44),.bin .add (.node []) false (.tmp 43) (.const (.int .i64 1)),(some (41,true))⟩,⟨(some 45),.sliceStr (.tmp 42) (some (.tmp 44)) none,(some (41,true))⟩,⟨(some 46),.call (.const (.func 96 [] [])) [(.tmp 45)],(some (41,true))⟩,⟨(some 47),.un .not (.tmp 46),(some (41,true))⟩,⟨(some 48),.mov (.tmp 47),(some (41,true))⟩,⟨(some 49),.mov (.tmp 3),(some (48,false))⟩,⟨(some 50),.mov (.tmp 4),(some (48,false))⟩,⟨(some 51),.bin .add (.node []) false (.tmp 50) (.const (.int .i64 1)),(some (48,false))⟩,⟨(some 52),.sliceStr (.tmp 49) (some (.tmp 51)) none,(some (48,false))⟩,⟨(some 53),.bin .eql (.prim .str) true (.tmp 52) (.const (.str [48])),(some (48,false))⟩,⟨(some 54),.pick (.tmp 48) (.const (.bool true)) (.tmp 53),(some (41,true))⟩,⟨(some 55),.mov (.tmp 54),(some (41,true))⟩,⟨(some 56),.mov (.tmp 3),(some (55,false))⟩,⟨(some 57),.mov (.tmp 4),(some (55,false))⟩,⟨(some 58),.bin .add (.node []) false (.tmp 57) (.const (.int .i64 1)),(some (55,false))⟩,⟨(some 59),.sliceStr (.tmp 56) (some (.tmp 58)) none,(some (55,false))⟩,⟨(some 60),.bin .eql (.prim .str) true (.tmp 59) (.const (.str [49])),(some (55,false))⟩,⟨(some 61),.pick (.tmp 55) (.const (.bool true)) (.tmp 60),(some (41,true))⟩,⟨(some 62),.pick (.tmp 41) (.tmp 61) (.const (.bool false)),none⟩])
 (.cond (.tmp 62)
 (.seq (.reg [mc 2 1])
 (.ret))
 (.skip)))
 (.seq (.seq (.reg [mv 63 4,bc 64 .gtr 63 600,mv 65 64,⟨(some 66),.mov (.tmp 3),(some (65,false))⟩,⟨(some 67),.len 0 (.tmp 66),(some (65,false))⟩,⟨(some 68),.mov (.tmp 4),(some (65,false))⟩,⟨(some 69),.bin .sub (.node []) false (.tmp 67) (.tmp 68),(some (65,false))⟩,⟨(some 70),.bin .sub (.node []) false (.tmp 69) (.const (.int .i64 1)),(some (65,false))⟩,⟨(some 71),.bin .gtr (.node []) false (.tmp 70) (.const (.int .i64 600)),(some (65,false))⟩,⟨(some 72),.pick (.tmp 65) (.const (.bool true)) (.tmp 71),none⟩])
 (.cond (.tmp 72)
 (.seq (.reg [mc 2 4])
 (.ret))
 (.skip)))
 (.seq (.seq (.reg [mv 73 4,mv 74 3,⟨(some 75),.len 0 (.tmp 74),none⟩,bi 76 .lss 73 75])
 (.cond (.tmp 76)
 (.seq (.reg [mv 78 3,⟨(some 79),.call (.const (.func 97 [] [])) [(.tmp 78)],none⟩,mv 77 79,xt 80 77 0,xt 81 77 1,⟨(some 5),.alloc [(.bool false),.nilslice] 203,none⟩,⟨(some 6),.alloc [(.bool false),.nilslice] 203,none⟩,⟨none,.store 2 (.tmp 5) (.tmp 80),none⟩,⟨none,.store 2 (.tmp 6) (.tmp 81),none⟩])
 (.seq (.reg [⟨(some 82),.faddr 1 (.tmp 5),none⟩,ld 83 82,⟨(some 84),.faddr 1 (.tmp 6),none⟩,ld 85 84,⟨(some 86),.call (.const (.func 98 [] [])) [(.tmp 83),(.tmp 85)],none⟩,mv 7 86])
 (.seq (.reg [mv 87 7,ln 88 87,⟨(some 89),.bin .neq (.prim .int) true (.tmp 88) (.const (.int .i64 1)),none⟩,mv 90 89,⟨(some 91),.mov (.tmp 7),(some (90,false))⟩,⟨(some 92),.iaddrSl 1 (.tmp 91) (.const (.int .i64 0)),(some (90,false))⟩,⟨(some 93),.load none (.tmp 92),(some (90,false))⟩,⟨(some 94),.bin .neq (.prim .int) true (.tmp 93) (.const (.int .i64 1)),(some (90,false))⟩,⟨(some 95),.pick (.tmp 90) (.const (.bool true)) (.tmp 94),none⟩])
 (.cond (.tmp 95)
 (.seq (.reg [mc 2 1])
 (.ret))
 (.skip)))))
 (.skip)))
 (.seq (.reg [mc 2 0])
 (.ret)))))))))
theorem A.c54:cFunc Tryz.prog 54=some ⟨96,[.tmp 2],A.b54⟩:=by kernel_rfl
def A.k54{K Q f c args st}:=@A.kk 54 _ _ _ A.c54 rfl K Q f c args st
theorem rparts_fn{s:Str}(hk:slashAt s<s.length)(hp:allD (s.take (slashAt s))=true)(hd:allD (s.drop (slashAt s+1))=true)(p1:1≤(s.take (slashAt s)).length)(d1:1≤(s.drop (slashAt s+1)).length)(hl:s.length≤100000){h:T O}{N:Nat}:Fn A.C 97 [.str s] h N (fun v h' n'=>∃x y,v=.tup [.agg [.bool false,x],.agg [.bool false,y]]∧Dn h' n' x (numV (s.take (slashAt s)))∧Dn h' n' y (numV (s.drop (slashAt s+1)))):=by
 intro w
 rw[call_run,A.k97 (by simp)]
 have hsl:=fun st=>slash_eq (s:=s) (st:=st) (by omega)
 have c1:¬((slashAt s:Int)=(s.length:Int)):=by omega
 have c2:¬(slashAt s=s.length):=by omega
 have c3:(slashAt s:Int)≤(s.length:Int):=by omega
 have c4:(slashAt s:Int)+1≤(s.length:Int):=by omega
 have c5:((slashAt s:Int)+1).toNat=slashAt s+1:=by omega
 simp(disch:=first|(simp;done)|omega|(simp only[dg_length,dgi_length,List.length_cons];omega)|rfl) [-getElem?_pos,A.b97,hsl,c1,c2,c3,c4,c5,eqPrim,evOpt]
 refine run_fn (parse_fn hp p1 (by simp;omega)) ?_
 rintro v1 h1 n1 k1 ⟨x,rfl,hx⟩
 have nx:¬((numV (s.take (slashAt s)):Nat):Int)<0:=by omega
 simp(disch:=first|(simp;done)|omega|(simp only[dg_length,dgi_length,List.length_cons];omega)|rfl) [-getElem?_pos,hsl,c1,c2,c3,c4,c5,eqPrim,evOpt,nx]
 refine run_fn (parse_fn hd d1 (by simp;omega)) ?_
 rintro v2 h2 n2 k2 ⟨y,rfl,hy⟩
 have ny:¬((numV (s.drop (slashAt s+1)):Nat):Int)<0:=by omega
 have kle1:=k1.le
 have kle2:=k2.le
 have hx:=Dn.keep hx k2
 have r0:=(k2.get N (by omega)).trans (k1.get N (by omega))
 have r1:=(k2.get (N+1) (by omega)).trans (k1.get (N+1) (by omega))
 simp at r0 r1
 have nint:∀u∈([.bool false,.nilslice]:List V),∀k n,u≠V.int k n:=by intro u hu k n;simp at hu;rcases hu with rfl|rfl<;>simp
 have hxo:=(Sl.form hx).one
 have hyo:=(Sl.form hy).one
 unfold V.one at hxo hyo
 have d1':N<n1:=by omega
 have d2':N<n2:=by omega
 have d3':N+1<n2:=by omega
 have d4':¬N+1=N:=by omega
 simp(disch:=first|(simp;done)|omega|(simp only[dg_length,dgi_length,List.length_cons];omega)|rfl) [-getElem?_pos,r0,r1,ny,nx,splice,storeK2,hxo,hyo,d1',d2',d3',partV,slc,pairsOk.chk,Ret]
 have hx1:=Sl.setInt (i:=N) (c1:=[.bool false,x]) (e1:=203) (w1:=true) hx r0 nint rfl
 have hy1:=Sl.setInt (i:=N) (c1:=[.bool false,x]) (e1:=203) (w1:=true) hy r0 nint rfl
 have r1':(h2.set N (.cells [.bool false,x] 203 true)).get (N+1)=some (.cells [.bool false,.nilslice] 203 true):=by rw[T.get_set,if_neg (by omega)];exact r1
 have hx2:=Sl.setInt (i:=N+1) (c1:=[.bool false,y]) (e1:=203) (w1:=true) hx1 r1' nint rfl
 have hy2:=Sl.setInt (i:=N+1) (c1:=[.bool false,y]) (e1:=203) (w1:=true) hy1 r1' nint rfl
 have k0:=((Keeps.refl (h:=h) (n:=N)).new (.cells [.bool false,.nilslice] 203 true)).new (.cells [.bool false,.nilslice] 203 true)
 exact⟨(((k0.trans k1).trans k2).set (Nat.le_refl N)).set (by omega),x,y,⟨rfl,rfl⟩,hx2,hy2⟩
theorem risDec_all{s:Str}(h:isDec s=true):allD s=true∧1≤s.length:=by
 cases s with
 |nil=>cases h
 |cons c s=>
  unfold isDec at h
  rw[Bool.and_eq_true]at h
  exact⟨h.1,by simp⟩
theorem ds_1:ds 1=[1]:=by rw[ds_pos (by decide),ds_zero];rfl
theorem numlen{s:Str}(h:allD s=true)(hl:s.length≤100000):(ds (numV s)).length<1000000000:=by
 have h1:=numV_lt' h
 have h2:(10:Nat)^s.length≤1000000000^s.length:=Nat.pow_le_pow_left (by decide) _
 have:=ds_len_lt (n:=numV s) (k:=s.length) (by omega)
 omega
theorem rcheck_fn{s:Str}(hl:s.length≤100000){h:T O}{N:Nat}:Fn A.C 54 [.str s] h N (fun v _ _=>v=.int .i64 (chkNum s:Nat)):=by
 intro w
 rw[call_run,A.k54 (by simp)]
 cases s with
 |nil=>
  have hsl:=fun st=>slash_eq (s:=[]) (st:=st) (by simp)
  have hdec:=fun st=>decimal_eq (s:=[]) (st:=st) (by simp)
  simp(disch:=first|(simp;done)|omega|(simp only[dg_length,dgi_length,List.length_cons];omega)|rfl) [-getElem?_pos,A.b54,hsl,slashAt,evOpt,hdec,isDec,Ret]
  exact⟨Keeps.refl,rfl⟩
 |cons c t=>
  by_cases h45:u8I c=45
  ·have hneg:chkNum (c::t)=chkP true (t.take (slashAt t)) (decide (slashAt t<t.length)) (t.drop (slashAt t+1)):=by
    have:c.toNat=45:=by unfold u8I at h45;omega
    simp[chkNum,chkB,negS,bodyS,this]
   rw[hneg]
   have hfirst:(0:Int)<(t.length:Int)+1:=by omega
   have hsl:=fun st=>slash_eq (s:=t) (st:=st) (by simp at hl;omega)
   have hdec:=fun st=>decimal_eq (s:=t.take (slashAt t)) (st:=st) (by simp at hl ⊢;omega)
   have hlk:(slashAt t:Int)≤(t.length:Int):=by have:=slashAt_le t;omega
   have hlk2:slashAt t≤t.length:=slashAt_le t
   have hpl:(t.take (slashAt t)).length=slashAt t:=by simp;omega
   have hdl:(t.drop (slashAt t+1)).length=t.length-(slashAt t+1):=by simp
   have hhead:=h45
   have hc0:=h45
   have hbt:=h45
   simp at hl
   generalize hp:t.take (slashAt t)=p at*
   generalize hdq:t.drop (slashAt t+1)=d at*
   by_cases hA:isDec p=true
   ·by_cases hz:p=[48]
    ·have e1:(p==[48])=true:=by simp[hz]
     simp(disch:=first|(simp;done)|omega|(simp only[dg_length,dgi_length,List.length_cons];omega)|rfl) [-getElem?_pos,A.b54,hfirst,hsl,hdec,hlk,hlk2,hp,hdq,evOpt,eqPrim,hhead,hc0,hbt,hA,e1,Ret]
     exact⟨Keeps.refl,by simp[chkP,formS,hz]⟩
    ·have e1:(p==[48])=false:=by simp[hz]
     by_cases hbr:slashAt t<t.length
     ·have hbr':(slashAt t:Int)<(t.length:Int):=by omega
      have hdd:=fun st=>decimal_eq (s:=d) (st:=st) (by omega)
      by_cases hD:isDec d=true
      ·by_cases h48:d=[48]
       ·have e8:(d==[48])=true:=by simp[h48]
        simp(disch:=first|(simp;done)|omega|(simp only[dg_length,dgi_length,List.length_cons];omega)|rfl) [-getElem?_pos,A.b54,hfirst,hsl,hdec,hlk,hlk2,hp,hdq,evOpt,eqPrim,hhead,hc0,hbt,hA,e1,hbr,hbr',hdd,hD,e8,Ret]
        exact⟨Keeps.refl,by simp[chkP,formS,h48]⟩
       ·have e8:(d==[48])=false:=by simp[h48]
        by_cases h49:d=[49]
        ·have e9:(d==[49])=true:=by simp[h49]
         simp(disch:=first|(simp;done)|omega|(simp only[dg_length,dgi_length,List.length_cons];omega)|rfl) [-getElem?_pos,A.b54,hfirst,hsl,hdec,hlk,hlk2,hp,hdq,evOpt,eqPrim,hhead,hc0,hbt,hA,e1,hbr,hbr',hdd,hD,e8,e9,Ret]
         exact⟨Keeps.refl,by simp[chkP,formS,h49]⟩
        ·have e9:(d==[49])=false:=by simp[h49]
         have hform:formS true p true d=true:=by simp[formS,hA,hD,h48,h49,hz]
         by_cases b6:600<p.length
         ·have b6':(600:Int)<(slashAt t:Int):=by omega
          simp(disch:=first|(simp;done)|omega|(simp only[dg_length,dgi_length,List.length_cons];omega)|rfl) [-getElem?_pos,A.b54,hfirst,hsl,hdec,hlk,hlk2,hp,hdq,evOpt,eqPrim,hhead,hc0,hbt,hA,e1,hbr,hbr',hdd,hD,e8,e9,b6',Ret]
          exact⟨Keeps.refl,by simp[chkP,hform,b6]⟩
         ·have b6':¬(600:Int)<(slashAt t:Int):=by omega
          by_cases b7:600<d.length
          ·have b7':(600:Int)<(t.length:Int)-(slashAt t:Int)-1:=by omega
           simp(disch:=first|(simp;done)|omega|(simp only[dg_length,dgi_length,List.length_cons];omega)|rfl) [-getElem?_pos,A.b54,hfirst,hsl,hdec,hlk,hlk2,hp,hdq,evOpt,eqPrim,hhead,hc0,hbt,hA,e1,hbr,hbr',hdd,hD,e8,e9,b6',b7',Ret]
           exact⟨Keeps.refl,by simp[chkP,hform,b6,b7]⟩
          ·have b7':¬(600:Int)<(t.length:Int)-(slashAt t:Int)-1:=by omega
           obtain⟨pa,pb⟩:=risDec_all hA
           obtain⟨da,db⟩:=risDec_all hD
           simp(disch:=first|(simp;done)|omega|(simp only[dg_length,dgi_length,List.length_cons];omega)|rfl) [-getElem?_pos,A.b54,hfirst,hsl,hdec,hlk,hlk2,hp,hdq,evOpt,eqPrim,hhead,hc0,hbt,hA,e1,hbr,hbr',hdd,hD,e8,e9,b6',b7']
           refine run_fn (rparts_fn hbr (by rw[hp];exact pa) (by rw[hdq];exact da) (by rw[hp];exact pb) (by rw[hdq];exact db) (by omega)) ?_
           rintro v1 h1 n1 k1 ⟨x,y,rfl,hx,hy⟩
           rw[hp]at hx
           rw[hdq]at hy
           have hxo:=(Sl.form hx).one
           have hyo:=(Sl.form hy).one
           unfold V.one at hxo hyo
           have kx:=((((Keeps.refl (h:=h1) (n:=n1)).new (.cells [.bool false,.nilslice] 203 true)).new (.cells [.bool false,.nilslice] 203 true)).set (i:=n1) (o:=.cells [.bool false,x] 203 true) (Nat.le_refl n1)).set (i:=n1+1) (o:=.cells [.bool false,y] 203 true) (by omega)
           simp(disch:=first|(simp;done)|omega|(simp only[dg_length,dgi_length,List.length_cons];omega)|rfl) [-getElem?_pos,splice,storeK2,hxo,hyo]
           refine run_fn (common_fn (hx.keep kx) (hy.keep kx) (numlen pa (by omega)) (numlen da (by omega))) ?_
           rintro z h2 n2 k2 hz2
           have kk:=(k1.trans kx).trans k2
           have lz:=hz2.len
           rw[dI_length]at lz
           have wok:¬n1<N:=by have:=k1.le;omega
           have wok2:¬n1+1<N:=by have:=k1.le;omega
           generalize hG:Nat.gcd (numV p) (numV d)=G at*
           by_cases g1:G=1
           ·subst g1
            rw[ds_1]at lz
            obtain⟨b1,b2,b3,b4,b5,z1,z2,z3,z4⟩:=Sl.at (show Sl h2 n2 z (dI [1]) from ds_1▸hz2) (j:=0) (x:=.int .i64 1) rfl
            simp at z4
            simp(disch:=first|(simp;done)|omega|(simp only[dg_length,dgi_length,List.length_cons];omega)|rfl) [-getElem?_pos,lz,z1,z3,z4,eqPrim,Ret,wok,wok2]
            exact⟨kk,by simp[chkP,hform,b6,b7,hG]⟩
           ·have hres:chkP true p true d=1:=by simp[chkP,hform,b6,b7,hG,g1]
            by_cases g2:(ds G).length=1
            ·obtain⟨gx,hgx⟩:=get_of_lt (l:=ds G) (k:=0) (by omega)
             obtain⟨b1,b2,b3,b4,b5,z1,z2,z3,z4⟩:=Sl.at (show Sl h2 n2 z (dI (ds G)) from hz2) (dI_get hgx)
             simp at z4
             have gne:¬gx=1:=fun hc=>g1 (by
              have hv:=ds_val G
              rw[vI_at hgx,List.drop_eq_nil_of_le (by omega)]at hv
              simp[vI,pI]at hv
              omega)
             simp(disch:=first|(simp;done)|omega|(simp only[dg_length,dgi_length,List.length_cons];omega)|rfl) [-getElem?_pos,lz,g2,z1,z3,z4,gne,eqPrim,Ret,wok,wok2,hres]
             exact kk
            ·have g2':¬((ds G).length:Int)=1:=by omega
             simp(disch:=first|(simp;done)|omega|(simp only[dg_length,dgi_length,List.length_cons];omega)|rfl) [-getElem?_pos,lz,g2,g2',eqPrim,Ret,wok,wok2,hres]
             exact kk
      ·have hD:isDec d=false:=by simpa using hD
       simp(disch:=first|(simp;done)|omega|(simp only[dg_length,dgi_length,List.length_cons];omega)|rfl) [-getElem?_pos,A.b54,hfirst,hsl,hdec,hlk,hlk2,hp,hdq,evOpt,eqPrim,hhead,hc0,hbt,hA,e1,hbr,hbr',hdd,hD,Ret]
       exact⟨Keeps.refl,by simp[chkP,formS,hD]⟩
     ·have hbr2:slashAt t=t.length:=by omega
      have hbr':¬(slashAt t:Int)<(t.length:Int):=by omega
      have hform:formS true p false d=true:=by simp[formS,hA,hz]
      have dl0:¬600<d.length:=by omega
      have b7':¬(600:Int)<(t.length:Int)-(slashAt t:Int)-1:=by omega
      by_cases b6:600<p.length
      ·have b6':(600:Int)<(slashAt t:Int):=by omega
       simp(disch:=first|(simp;done)|omega|(simp only[dg_length,dgi_length,List.length_cons];omega)|rfl) [-getElem?_pos,A.b54,hfirst,hsl,hdec,hlk,hlk2,hp,hdq,evOpt,eqPrim,hhead,hc0,hbt,hA,e1,hbr,hbr',b6',Ret]
       exact⟨Keeps.refl,by simp[chkP,hform,b6]⟩
      ·have b6':¬(600:Int)<(slashAt t:Int):=by omega
       simp(disch:=first|(simp;done)|omega|(simp only[dg_length,dgi_length,List.length_cons];omega)|rfl) [-getElem?_pos,A.b54,hfirst,hsl,hdec,hlk,hlk2,hp,hdq,evOpt,eqPrim,hhead,hc0,hbt,hA,e1,hbr,hbr',b6',b7',Ret]
       exact⟨Keeps.refl,by simp[chkP,hform,b6,dl0]⟩
   ·have hA:isDec p=false:=by simpa using hA
    simp(disch:=first|(simp;done)|omega|(simp only[dg_length,dgi_length,List.length_cons];omega)|rfl) [-getElem?_pos,A.b54,hfirst,hsl,hdec,hlk,hlk2,hp,hdq,evOpt,eqPrim,hhead,hc0,hbt,hA,Ret]
    exact⟨Keeps.refl,by simp[chkP,formS,hA]⟩
  ·have hsn:negS (c::t)=false:=by
    simp only[negS,decide_eq_false_iff_not];unfold u8I at h45;omega
   obtain⟨t,ht⟩:∃t',t'=c::t:=⟨c::t,rfl⟩
   rw[←ht]at hl hsn ⊢
   have hc0:t[0]?=some c:=by rw[ht];rfl
   have hhead:t.head?=some c:=by rw[ht];rfl
   have hlen:0<t.length:=by rw[ht];simp
   have hbt:t≠[]:=by rw[ht];simp
   have hlen':(0:Int)<(t.length:Int):=by omega
   have hfirst:0<t.length:=hlen
   clear ht
   have hneg:chkNum t=chkP false (t.take (slashAt t)) (decide (slashAt t<t.length)) (t.drop (slashAt t+1)):=by
    simp[chkNum,chkB,bodyS,hsn]
   rw[hneg]
   have hsl:=fun st=>slash_eq (s:=t) (st:=st) (by omega)
   have hdec:=fun st=>decimal_eq (s:=t.take (slashAt t)) (st:=st) (by simp;omega)
   have hlk:(slashAt t:Int)≤(t.length:Int):=by have:=slashAt_le t;omega
   have hlk2:slashAt t≤t.length:=slashAt_le t
   have hpl:(t.take (slashAt t)).length=slashAt t:=by simp;omega
   have hdl:(t.drop (slashAt t+1)).length=t.length-(slashAt t+1):=by simp
   generalize hp:t.take (slashAt t)=p at*
   generalize hdq:t.drop (slashAt t+1)=d at*
   by_cases hA:isDec p=true
   ·have e1:True:=trivial
    by_cases hbr:slashAt t<t.length
    ·have hbr':(slashAt t:Int)<(t.length:Int):=by omega
     have hdd:=fun st=>decimal_eq (s:=d) (st:=st) (by omega)
     by_cases hD:isDec d=true
     ·by_cases h48:d=[48]
      ·have e8:(d==[48])=true:=by simp[h48]
       simp(disch:=first|(simp;done)|omega|(simp only[dg_length,dgi_length,List.length_cons];omega)|rfl) [-getElem?_pos,A.b54,hfirst,hsl,hdec,hlk,hlk2,hp,hdq,evOpt,eqPrim,hhead,hc0,hbt,h45,hlen',hA,e1,hbr,hbr',hdd,hD,e8,Ret]
       exact⟨Keeps.refl,by simp[chkP,formS,h48]⟩
      ·have e8:(d==[48])=false:=by simp[h48]
       by_cases h49:d=[49]
       ·have e9:(d==[49])=true:=by simp[h49]
        simp(disch:=first|(simp;done)|omega|(simp only[dg_length,dgi_length,List.length_cons];omega)|rfl) [-getElem?_pos,A.b54,hfirst,hsl,hdec,hlk,hlk2,hp,hdq,evOpt,eqPrim,hhead,hc0,hbt,h45,hlen',hA,e1,hbr,hbr',hdd,hD,e8,e9,Ret]
        exact⟨Keeps.refl,by simp[chkP,formS,h49]⟩
       ·have e9:(d==[49])=false:=by simp[h49]
        have hform:formS false p true d=true:=by simp[formS,hA,hD,h48,h49]
        by_cases b6:600<p.length
        ·have b6':(600:Int)<(slashAt t:Int):=by omega
         simp(disch:=first|(simp;done)|omega|(simp only[dg_length,dgi_length,List.length_cons];omega)|rfl) [-getElem?_pos,A.b54,hfirst,hsl,hdec,hlk,hlk2,hp,hdq,evOpt,eqPrim,hhead,hc0,hbt,h45,hlen',hA,e1,hbr,hbr',hdd,hD,e8,e9,b6',Ret]
         exact⟨Keeps.refl,by simp[chkP,hform,b6]⟩
        ·have b6':¬(600:Int)<(slashAt t:Int):=by omega
         by_cases b7:600<d.length
         ·have b7':(600:Int)<(t.length:Int)-(slashAt t:Int)-1:=by omega
          simp(disch:=first|(simp;done)|omega|(simp only[dg_length,dgi_length,List.length_cons];omega)|rfl) [-getElem?_pos,A.b54,hfirst,hsl,hdec,hlk,hlk2,hp,hdq,evOpt,eqPrim,hhead,hc0,hbt,h45,hlen',hA,e1,hbr,hbr',hdd,hD,e8,e9,b6',b7',Ret]
          exact⟨Keeps.refl,by simp[chkP,hform,b6,b7]⟩
         ·have b7':¬(600:Int)<(t.length:Int)-(slashAt t:Int)-1:=by omega
          obtain⟨pa,pb⟩:=risDec_all hA
          obtain⟨da,db⟩:=risDec_all hD
          simp(disch:=first|(simp;done)|omega|(simp only[dg_length,dgi_length,List.length_cons];omega)|rfl) [-getElem?_pos,A.b54,hfirst,hsl,hdec,hlk,hlk2,hp,hdq,evOpt,eqPrim,hhead,hc0,hbt,h45,hlen',hA,e1,hbr,hbr',hdd,hD,e8,e9,b6',b7']
          refine run_fn (rparts_fn hbr (by rw[hp];exact pa) (by rw[hdq];exact da) (by rw[hp];exact pb) (by rw[hdq];exact db) (by omega)) ?_
          rintro v1 h1 n1 k1 ⟨x,y,rfl,hx,hy⟩
          rw[hp]at hx
          rw[hdq]at hy
          have hxo:=(Sl.form hx).one
          have hyo:=(Sl.form hy).one
          unfold V.one at hxo hyo
          have kx:=((((Keeps.refl (h:=h1) (n:=n1)).new (.cells [.bool false,.nilslice] 203 true)).new (.cells [.bool false,.nilslice] 203 true)).set (i:=n1) (o:=.cells [.bool false,x] 203 true) (Nat.le_refl n1)).set (i:=n1+1) (o:=.cells [.bool false,y] 203 true) (by omega)
          simp(disch:=first|(simp;done)|omega|(simp only[dg_length,dgi_length,List.length_cons];omega)|rfl) [-getElem?_pos,splice,storeK2,hxo,hyo]
          refine run_fn (common_fn (hx.keep kx) (hy.keep kx) (numlen pa (by omega)) (numlen da (by omega))) ?_
          rintro z h2 n2 k2 hz2
          have kk:=(k1.trans kx).trans k2
          have lz:=hz2.len
          rw[dI_length]at lz
          have wok:¬n1<N:=by have:=k1.le;omega
          have wok2:¬n1+1<N:=by have:=k1.le;omega
          generalize hG:Nat.gcd (numV p) (numV d)=G at*
          by_cases g1:G=1
          ·subst g1
           rw[ds_1]at lz
           obtain⟨b1,b2,b3,b4,b5,z1,z2,z3,z4⟩:=Sl.at (show Sl h2 n2 z (dI [1]) from ds_1▸hz2) (j:=0) (x:=.int .i64 1) rfl
           simp at z4
           simp(disch:=first|(simp;done)|omega|(simp only[dg_length,dgi_length,List.length_cons];omega)|rfl) [-getElem?_pos,lz,z1,z3,z4,eqPrim,Ret,wok,wok2]
           exact⟨kk,by simp[chkP,hform,b6,b7,hG]⟩
          ·have hres:chkP false p true d=1:=by simp[chkP,hform,b6,b7,hG,g1]
           by_cases g2:(ds G).length=1
           ·obtain⟨gx,hgx⟩:=get_of_lt (l:=ds G) (k:=0) (by omega)
            obtain⟨b1,b2,b3,b4,b5,z1,z2,z3,z4⟩:=Sl.at (show Sl h2 n2 z (dI (ds G)) from hz2) (dI_get hgx)
            simp at z4
            have gne:¬gx=1:=fun hc=>g1 (by
             have hv:=ds_val G
             rw[vI_at hgx,List.drop_eq_nil_of_le (by omega)]at hv
             simp[vI,pI]at hv
             omega)
            simp(disch:=first|(simp;done)|omega|(simp only[dg_length,dgi_length,List.length_cons];omega)|rfl) [-getElem?_pos,lz,g2,z1,z3,z4,gne,eqPrim,Ret,wok,wok2,hres]
            exact kk
           ·have g2':¬((ds G).length:Int)=1:=by omega
            simp(disch:=first|(simp;done)|omega|(simp only[dg_length,dgi_length,List.length_cons];omega)|rfl) [-getElem?_pos,lz,g2,g2',eqPrim,Ret,wok,wok2,hres]
            exact kk
     ·have hD:isDec d=false:=by simpa using hD
      simp(disch:=first|(simp;done)|omega|(simp only[dg_length,dgi_length,List.length_cons];omega)|rfl) [-getElem?_pos,A.b54,hfirst,hsl,hdec,hlk,hlk2,hp,hdq,evOpt,eqPrim,hhead,hc0,hbt,h45,hlen',hA,e1,hbr,hbr',hdd,hD,Ret]
      exact⟨Keeps.refl,by simp[chkP,formS,hD]⟩
    ·have hbr2:slashAt t=t.length:=by omega
     have hbr':¬(slashAt t:Int)<(t.length:Int):=by omega
     have hform:formS false p false d=true:=by simp[formS,hA]
     have dl0:¬600<d.length:=by omega
     have b7':¬(600:Int)<(t.length:Int)-(slashAt t:Int)-1:=by omega
     by_cases b6:600<p.length
     ·have b6':(600:Int)<(slashAt t:Int):=by omega
      simp(disch:=first|(simp;done)|omega|(simp only[dg_length,dgi_length,List.length_cons];omega)|rfl) [-getElem?_pos,A.b54,hfirst,hsl,hdec,hlk,hlk2,hp,hdq,evOpt,eqPrim,hhead,hc0,hbt,h45,hlen',hA,e1,hbr,hbr',b6',Ret]
      exact⟨Keeps.refl,by simp[chkP,hform,b6]⟩
     ·have b6':¬(600:Int)<(slashAt t:Int):=by omega
      simp(disch:=first|(simp;done)|omega|(simp only[dg_length,dgi_length,List.length_cons];omega)|rfl) [-getElem?_pos,A.b54,hfirst,hsl,hdec,hlk,hlk2,hp,hdq,evOpt,eqPrim,hhead,hc0,hbt,h45,hlen',hA,e1,hbr,hbr',b6',b7',Ret]
      exact⟨Keeps.refl,by simp[chkP,hform,b6,dl0]⟩
   ·have hA:isDec p=false:=by simpa using hA
    simp(disch:=first|(simp;done)|omega|(simp only[dg_length,dgi_length,List.length_cons];omega)|rfl) [-getElem?_pos,A.b54,hfirst,hsl,hdec,hlk,hlk2,hp,hdq,evOpt,eqPrim,hhead,hc0,hbt,h45,hlen',hA,Ret]
    exact⟨Keeps.refl,by simp[chkP,formS,hA]⟩
end Go.Mx
namespace Go.Mx
open Go Go.Proofs
set_option maxRecDepth 1000000
def A.b53:MCode:=.seq (.reg [mc 6 0])
 (.seq (.seq (.reg [mv 7 0,mv 8 1,bi 9 .lss 7 8,mv 10 9,⟨(some 11),.mov (.tmp 0),(some (10,false))⟩,⟨(some 12),.mov (.tmp 2),(some (10,false))⟩,⟨(some 13),.bin .gtr (.node []) false (.tmp 11) (.tmp 12),(some (10,false))⟩,⟨(some 14),.pick (.tmp 10) (.const (.bool true)) (.tmp 13),none⟩])
 (.cond (.tmp 14)
 (.seq (.reg [mc 6 3])
 (.ret))
 (.skip)))
 (.seq (.reg [mc 6 0])
 (.ret)))
theorem A.c53:cFunc Tryz.prog 53=some ⟨15,[.tmp 6],A.b53⟩:=by kernel_rfl
def A.k53{K Q f c args st}:=@A.kk 53 _ _ _ A.c53 rfl K Q f c args st
def A.lb52_0:MCode:=.seq (.seq (.reg [mv 4 3,mv 5 0,ln 6 5,bi 7 .lss 4 6])
 (.cond (.tmp 7)
 (.skip)
 (.exit 0)))
 (.seq (.block 1 (.seq (.reg [mv 10 0,mv 11 3,ia 12 1 10 11,ld 13 12,⟨(some 14),.bin .neq (.prim .int) true (.tmp 13) (.const (.int .i64 0)),none⟩])
 (.cond (.tmp 14)
 (.seq (.reg [mv 15 0,mv 16 3,ia 17 1 15 16,ld 18 17,mv 2 18])
 (.ret))
 (.skip))))
 (.reg [mv 8 3,bc 9 .add 8 1,mv 3 9]))
def A.b52:MCode:=.seq (.reg [mc 2 0])
 (.seq (.seq (.reg [mc 3 0])
 (.block 0 (.loop A.lb52_0)))
 (.seq (.reg [mc 2 0])
 (.ret)))
theorem A.c52:cFunc Tryz.prog 52=some ⟨19,[.tmp 2],A.b52⟩:=by kernel_rfl
def A.k52{K Q f c args st}:=@A.kk 52 _ _ _ A.c52 rfl K Q f c args st
def A.b57:MCode:=.seq (.reg [⟨(some 1),.box 68 (.tmp 0),none⟩,mc 2 0])
 (.seq (.regD [⟨(some 4),.faddr 0 (.tmp 1),none⟩,ld 5 4,⟨(some 6),.call (.const (.func 53 [] [])) [(.tmp 5),(.const (.int .i64 1)),(.const (.int .i64 999999999))],none⟩,⟨(some 7),.faddr 1 (.tmp 1),none⟩,ld 8 7,⟨(some 9),.call (.const (.func 53 [] [])) [(.tmp 8),(.const (.int .i64 0)),(.const (.int .i64 100000000))],none⟩,⟨(some 10),.bslice 3 1 2 [(.int .i64 0),(.int .i64 0)] [(0,1,(.tmp 6)),(1,1,(.tmp 9))],none⟩,⟨(some 11),.call (.const (.func 52 [] [])) [(.tmp 10)],none⟩,mv 3 11] [0,1,3,0,8,31,63,127,255])
 (.seq (.seq (.reg [mv 12 3,⟨(some 13),.bin .eql (.prim .int) true (.tmp 12) (.const (.int .i64 0)),none⟩,mv 14 13,⟨(some 15),.faddr 2 (.tmp 1),(some (14,true))⟩,⟨(some 16),.load none (.tmp 15),(some (14,true))⟩,⟨(some 17),.len 1 (.tmp 16),(some (14,true))⟩,⟨(some 18),.bin .gtr (.node []) false (.tmp 17) (.const (.int .i64 16)),(some (14,true))⟩,⟨(some 19),.pick (.tmp 14) (.tmp 18) (.const (.bool false)),none⟩])
 (.cond (.tmp 19)
 (.reg [mc 3 5])
 (.skip)))
 (.seq (.seq (.reg [mv 20 3,⟨(some 21),.bin .eql (.prim .int) true (.tmp 20) (.const (.int .i64 0)),none⟩])
 (.cond (.tmp 21)
 (.reg [⟨(some 22),.faddr 2 (.tmp 1),none⟩,ld 23 22,⟨(some 24),.call (.const (.func 103 [] [])) [(.tmp 23)],none⟩,mv 3 24])
 (.skip)))
 (.seq (.reg [mv 25 3,mv 2 25])
 (.ret)))))
theorem A.c57:cFunc Tryz.prog 57=some ⟨26,[.tmp 2],A.b57⟩:=by kernel_rfl
def A.k57{K Q f c args st}:=@A.kk 57 _ _ _ A.c57 rfl K Q f c args st
def A.lb103_0:MCode:=.seq (.seq (.reg [mv 5 3,mv 6 0,ln 7 6,bi 8 .lss 5 7])
 (.cond (.tmp 8)
 (.skip)
 (.exit 0)))
 (.seq (.block 1 (.seq (.reg [mv 11 0,mv 12 3,ia 13 1 11 12,ld 14 13,⟨(some 15),.call (.const (.func 54 [] [])) [(.tmp 14)],none⟩,mv 4 15])
 (.seq (.reg [mv 16 4,⟨(some 17),.bin .neq (.prim .int) true (.tmp 16) (.const (.int .i64 0)),none⟩])
 (.cond (.tmp 17)
 (.seq (.reg [mv 18 4,mv 2 18])
 (.ret))
 (.skip)))))
 (.reg [mv 9 3,bc 10 .add 9 1,mv 3 10]))
def A.b103:MCode:=.seq (.reg [mc 2 0])
 (.seq (.seq (.reg [mc 3 0])
 (.block 0 (.loop A.lb103_0)))
 (.seq (.reg [mc 2 0])
 (.ret)))
theorem A.c103:cFunc Tryz.prog 103=some ⟨19,[.tmp 2],A.b103⟩:=by kernel_rfl
def A.k103{K Q f c args st}:=@A.kk 103 _ _ _ A.c103 rfl K Q f c args st
def A.b23:MCode:=.seq (.reg [mc 2 0])
 (.seq (.reg [mv 3 0,⟨(some 4),.call (.const (.func 53 [] [])) [(.tmp 3),(.const (.int .i64 1)),(.const (.int .i64 64))],none⟩,mv 2 4])
 (.ret))
theorem A.c23:cFunc Tryz.prog 23=some ⟨5,[.tmp 2],A.b23⟩:=by kernel_rfl
def A.k23{K Q f c args st}:=@A.kk 23 _ _ _ A.c23 rfl K Q f c args st
theorem r9within_eq{x lo hi:Int}{st:St}:A.C.call (.func 53 [] []) [.int .i64 x,.int .i64 lo,.int .i64 hi] st=some (.int .i64 (if x<lo∨hi<x then 3 else 0),st):=by
 apply Call.eq
 rw[call_run,A.k53 (by simp)]
 by_cases h1:x<lo
 ·simp(disch:=first|(simp;done)|omega|rfl) [-getElem?_pos,A.b53,h1]
 ·by_cases h2:hi<x<;>simp(disch:=first|(simp;done)|omega|rfl) [-getElem?_pos,A.b53,h1,h2]
theorem ccap_eq{x:Int}{st:St}:A.C.call (.func 23 [] []) [.int .i64 x] st=some (.int .i64 (if x<1∨64<x then 3 else 0),st):=by
 apply Call.eq
 rw[call_run,A.k23 (by simp)]
 simp(disch:=first|(simp;done)|omega|rfl) [-getElem?_pos,A.b23,r9within_eq]
theorem r9first_eq{h:T O}{N:Nat}{v:V}{l:List Int}{w:List Nat}(hs:Sl h N v (dI l))(hl:l.length<1000):A.C.call (.func 52 [] []) [v] ⟨h,N,w⟩=some (.int .i64 (firstNZ l),⟨h,N,w⟩):=by
 apply Call.eq
 have hlen:=hs.len
 rw[dI_length]at hlen
 rw[call_run,A.k52 (by simp)]
 simp(disch:=first|(simp;done)|omega|rfl) [-getElem?_pos,A.b52]
 refine run_loopD [(2,18)] (fun e r st=>st=⟨h,N,[]⟩∧((e=.exit 0∧firstNZ l=0)∨(e=.ret∧r.get 2=some (.int .i64 (firstNZ l))))) (fun m r st=>st=⟨h,N,[]⟩∧∃k,k+m=l.length∧r.get 3=some (.int .i64 k)∧firstNZ l=firstNZ (l.drop k)) l.length ?_ ?_ ?_
 ·exact⟨rfl,0,by omega,by simp,by simp⟩
 ·rintro m r _ hr hf ⟨rfl,k,hk,h7,hz⟩
  rw[code_run]
  cases m with
  |zero=>
   obtain rfl:k=l.length:=by omega
   rw[List.drop_length,firstNZ]at hz
   simp(disch:=first|(simp;done)|omega|rfl) [-getElem?_pos,A.lb52_0,hr,hf,h7,hlen,hz]
  |succ m=>
   have hlt:k<l.length:=by omega
   obtain⟨c,hc⟩:=get_of_lt hlt
   obtain⟨i,o,cc,e,rw,q1,q2,q3,q4⟩:=hs.at (dI_get hc)
   rw[get_drop_cons hc,firstNZ]at hz
   have hk1:(k:Int)<(l.length:Int):=by omega
   by_cases h0:c=0
   ·rw[if_pos h0]at hz
    simp(disch:=first|(simp;done)|omega|rfl) [-getElem?_pos,A.lb52_0,hr,hf,h7,hk1,hlt,hlen,q1,q3,q4,eqPrim,h0]
    exact⟨m,by omega,k+1,by omega,by simp,hz⟩
   ·rw[if_neg h0]at hz
    simp(disch:=first|(simp;done)|omega|rfl) [-getElem?_pos,A.lb52_0,hr,hf,h7,hk1,hlt,hlen,q1,q3,q4,eqPrim,h0,hz]
 ·rintro _ r _ hr ⟨rfl,⟨rfl,hz⟩|⟨rfl,h2⟩⟩
  ·simp(disch:=first|(simp;done)|omega|rfl) [-getElem?_pos,hr,hz]
  ·simp(disch:=first|(simp;done)|omega|rfl) [-getElem?_pos,hr,h2]
theorem crow_fn{h:T O}{N:Nat}{v:V}{l:List Str}(hs:Sl h N v (strs l))(hl:l.length<100000)(hf0:∀s∈l,s.length≤100000):Fn A.C 103 [v] h N (fun u _ _=>u=.int .i64 (firstNZ (l.map fun s=>((chkNum s:Nat):Int)))):=by
 intro w
 have hlen:=hs.len
 rw[strs_len]at hlen
 rw[call_run,A.k103 (by simp)]
 simp(disch:=first|(simp;done)|omega|rfl) [-getElem?_pos,A.b103]
 refine run_loopD [(2,18)] (fun e r st=>oldIds N st.w=[]∧Keeps h N st.h st.n∧((e=.exit 0∧firstNZ (l.map fun s=>((chkNum s:Nat):Int))=0)∨(e=.ret∧r.get 2=some (.int .i64 (firstNZ (l.map fun s=>((chkNum s:Nat):Int))))))) (fun m r st=>oldIds N st.w=[]∧Keeps h N st.h st.n∧∃k,k+m=l.length∧r.get 3=some (.int .i64 k)∧firstNZ (l.map fun s=>((chkNum s:Nat):Int))=firstNZ ((l.drop k).map fun s=>((chkNum s:Nat):Int))) l.length ?_ ?_ ?_
 ·exact⟨by simp,Keeps.refl,0,by omega,by simp,by simp⟩
 ·rintro m r ⟨H,n1,W⟩ hr hf ⟨hW,hK,k,hk,h7,hz⟩
  simp only at hW hK
  rw[code_run]
  cases m with
  |zero=>
   obtain rfl:k=l.length:=by omega
   rw[List.drop_length,List.map_nil,firstNZ]at hz
   simp(disch:=first|(simp;done)|omega|rfl) [-getElem?_pos,A.lb103_0,hr,hf,h7,hlen,hz,hW,hK]
  |succ m=>
   have hlt:k<l.length:=by omega
   obtain⟨s,hc⟩:=get_of_lt hlt
   obtain⟨i,o,cc,e,rw,q1,q2,q3,q4⟩:=(hs.keep hK).at (strs_get hc)
   rw[get_drop_cons hc,List.map_cons,firstNZ]at hz
   have hk1:(k:Int)<(l.length:Int):=by omega
   simp(disch:=first|(simp;done)|omega|rfl) [-getElem?_pos,A.lb103_0,hr,hf,h7,hk1,hlt,hlen,q1,q3,q4]
   refine run_fn (rcheck_fn (hf0 s (List.mem_of_getElem? hc))) ?_
   rintro _ h3 n3 k3 rfl
   have kk:=hK.trans k3
   by_cases h0:chkNum s=0
   ·rw[if_pos (by omega)]at hz
    simp(disch:=first|(simp;done)|omega|rfl) [-getElem?_pos,hr,hf,h7,h0,hW,eqPrim]
    exact⟨m,by omega,kk,k+1,by omega,by simp,by simpa using hz⟩
   ·rw[if_neg (by omega)]at hz
    have h0':¬((chkNum s:Nat):Int)=0:=by omega
    simp(disch:=first|(simp;done)|omega|rfl) [-getElem?_pos,hr,hf,h7,h0,h0',hW,eqPrim,hz]
    exact kk
 ·rintro _ r ⟨H,n1,W⟩ hr ⟨hW,hK,⟨rfl,hz⟩|⟨rfl,h2⟩⟩
  ·simp only at hW hK
   simp(disch:=first|(simp;done)|omega|rfl) [-getElem?_pos,hr,hz,Ret,hW,hK]
  ·simp only at hW hK
   simp(disch:=first|(simp;done)|omega|rfl) [-getElem?_pos,hr,h2,Ret,hW,hK]
theorem crec_fn{h:T O}{N:Nat}{x:Rc}{u:V}(hu:Sl h N u (strs x.vs))(hl:x.vs.length<1000)(hs:∀s∈x.vs,s.length≤100000):Fn A.C 57 [.agg [.int .i64 x.f,.int .i64 x.t,u]] h N (fun v _ _=>v=.int .i64 (chkRc x)):=by
 intro w
 have o1:=hu.form.one
 have o2:=hu.form.cells
 unfold V.one at o1
 unfold V.cells at o2
 have hlen:=hu.len
 rw[strs_len]at hlen
 have k0:Keeps h N ((h.set N (.cells [.int .i64 x.f,.int .i64 x.t,u] 68 true)).set (N+1) (.cells [.int .i64 (if x.f<1∨999999999<x.f then 3 else 0),.int .i64 (if x.t<0∨100000000<x.t then 3 else 0)] 3 true)) (N+1+1):=(Keeps.refl.new _).new _
 have hi:(16<(x.vs.length:Int))=(16<x.vs.length):=by apply propext;omega
 have hfi:=fun w=>r9first_eq (h:=(h.set N (.cells [.int .i64 x.f,.int .i64 x.t,u] 68 true)).set (N+1) (.cells [.int .i64 (if x.f<1∨999999999<x.f then 3 else 0),.int .i64 (if x.t<0∨100000000<x.t then 3 else 0)] 3 true)) (N:=N+1+1) (v:=.slice (N+1) 0 2 (some 2) 1) (l:=[if x.f<1∨999999999<x.f then 3 else 0,if x.t<0∨100000000<x.t then 3 else 0]) (w:=w) (Sl.row (e:=3) (rw:=true) (cp:=some 2) (by omega) (by simp[dI]) rfl (by simp)) (by simp)
 rw[call_run,A.k57 (by simp)]
 have fin:∀(r:T V),True:=fun _=>trivial
 by_cases c1:x.f<1∨999999999<x.f
 ·have e1:chkRc x=3:=by simp[chkRc,recErr,firstNZ,c1]
  simp only[if_pos c1,firstNZ]at hfi
  simp(disch:=first|(simp;done)|omega|rfl) [-getElem?_pos,A.b57,o1,o2,hlen,splice,partV,slc,r9within_eq,c1,hfi,eqPrim,pairsOk.chk,Ret,e1]
  exact(Keeps.refl.new _).new _
 ·by_cases c2:x.t<0∨100000000<x.t
  ·have e1:chkRc x=3:=by simp[chkRc,recErr,firstNZ,c1,c2]
   simp only[if_neg c1,if_pos c2,firstNZ]at hfi
   simp(disch:=first|(simp;done)|omega|rfl) [-getElem?_pos,A.b57,o1,o2,hlen,splice,partV,slc,r9within_eq,c1,c2,hfi,eqPrim,pairsOk.chk,Ret,e1]
   exact(Keeps.refl.new _).new _
  ·simp only[if_neg c1,if_neg c2,firstNZ]at hfi k0
   by_cases c3:16<x.vs.length
   ·have e1:chkRc x=5:=by simp[chkRc,recErr,firstNZ,c1,c2,c3]
    simp(disch:=first|(simp;done)|omega|rfl) [-getElem?_pos,A.b57,o1,o2,hlen,splice,partV,slc,r9within_eq,c1,c2,c3,hi,hfi,eqPrim,pairsOk.chk,Ret,e1]
    exact(Keeps.refl.new _).new _
   ·have e1:chkRc x=firstNZ (x.vs.map fun s=>((chkNum s:Nat):Int)):=by simp[chkRc,recErr,firstNZ,c1,c2,c3]
    simp(disch:=first|(simp;done)|omega|rfl) [-getElem?_pos,A.b57,o1,o2,hlen,splice,partV,slc,r9within_eq,c1,c2,c3,hi,hfi,eqPrim,pairsOk.chk]
    refine run_fn (crow_fn (hu.keep k0) (by omega) hs) ?_
    rintro _ h3 n3 k3 rfl
    simp(disch:=first|(simp;done)|omega|rfl) [-getElem?_pos,Ret,e1]
    exact k0.trans k3
end Go.Mx
