/-lensletref01-/
import Derived.Test.YteoackkadadmdaaGreatDoorRbD
set_option linter.all false
namespace Go.Mx
open Go Go.Proofs
variable {s:aQ}
set_option maxRecDepth 1000000
def A.b118:av:=sr [ge 2 (.alloc [.bool false,.aa] 139),ge 3 (.alloc [.bool false,.aa] 139)]
 (sr [mv 6 0,mv 4 6]
 (sr [mv 7 4,c1 8 116 7,mv 5 8]
 (.seq (sr [mv 9 5,mv 10 4,ge 11 (.len 0 (tq 10)),ge 12 (.bin .eql (.aM .int) false (tq 9) (tq 11))]
 (cd 12
 (sr [mv 13 4,c1 14 173 13,ge 15 (.call (fq 174) [.const (.int .i64 1)]),gn (.store 2 (tq 2) (tq 14)),gn (.store 2 (tq 3) (tq 15))]
 (.ret))
 (.skip)))
 (.seq (.aX [mv 16 4,mv 17 5,ge 18 (.aD (tq 16) none (some (tq 17))),c1 19 173 18,mv 20 4,mv 21 5,bc 22 .add 21 1,ge 23 (.aD (tq 20) (some (tq 22)) none),c1 24 173 23,gn (.store 2 (tq 2) (tq 19)),gn (.store 2 (tq 3) (tq 24))] [0,0,3,7,0,0,32,112,255,511,1023])
 (.ret)))))
def A.c118:A.F 118=some ⟨25,[.cell 2 (some 2),.cell 3 (some 2)],A.b118⟩:=by kernel_rfl
def A.k118:=@A.kk 118 _ _ _ A.c118 rfl
def A.b47:av:=sr [mc 2 0]
 (sr [mv 8 0,mv 3 8]
 (.seq (sr [mv 9 3,ge 10 (.len 0 (tq 9)),bc 11 .gtr 10 0,mv 12 11,mg 13 3 12,gy 14 12 (.aZ (tq 13) (kq 0)),gy 15 12 (.bin .eql (.aM .int) true (tq 14) (.const (.int .u8 45))),pf 16 12 15]
 (cd 16
 (.aR [mv 17 3,ge 18 (.aD (tq 17) (some (kq 1)) none),mv 3 18])
 (.skip)))
 (sr [mv 19 3,c1 20 116 19,mv 4 20]
 (.seq (sr [mv 21 3,mv 22 4,ge 23 (.aD (tq 21) none (some (tq 22))),c1 24 117 23,ge 25 (.un .not (tq 24)),mv 26 25,mh 27 0 26,gz 28 26 (.aZ (tq 27) (kq 0)),gz 29 26 (.bin .eql (.aM .int) true (tq 28) (.const (.int .u8 45))),mh 30 29 26,mg 31 3 30,mg 32 4 30,gy 33 30 (.aD (tq 31) none (some (tq 32))),gy 34 30 (.bin .eql (.aM .str) true (tq 33) (.const (.str [48]))),gz 35 26 (.pick (tq 30) (tq 34) (.const (.bool false))),pt 36 26 35]
 (cd 36
 (sr [mc 2 1]
 (.ret))
 (.skip)))
 (.seq (sr [mv 37 4,mv 38 3,ge 39 (.len 0 (tq 38)),bi 40 .lss 37 39,mv 41 40,mg 42 3 41,mg 43 4 41,gy 44 41 (.bin .add (.node []) false (tq 43) (kq 1)),gy 45 41 (.aD (tq 42) (some (tq 44)) none),gy 46 41 (.call (fq 117) [tq 45]),gy 47 41 (.un .not (tq 46)),mg 48 47 41,mh 49 3 48,mh 50 4 48,gz 51 48 (.bin .add (.node []) false (tq 50) (kq 1)),gz 52 48 (.aD (tq 49) (some (tq 51)) none),gz 53 48 (.bin .eql (.aM .str) true (tq 52) (.const (.str [48]))),gy 54 41 (.pick (tq 48) (.const (.bool true)) (tq 53)),mg 55 54 41,mh 56 3 55,mh 57 4 55,gz 58 55 (.bin .add (.node []) false (tq 57) (kq 1)),gz 59 55 (.aD (tq 56) (some (tq 58)) none),gz 60 55 (.bin .eql (.aM .str) true (tq 59) (.const (.str [49]))),gy 61 41 (.pick (tq 55) (.const (.bool true)) (tq 60)),pf 62 41 61]
 (cd 62
 (sr [mc 2 1]
 (.ret))
 (.skip)))
 (.seq (sr [mv 63 4,bc 64 .gtr 63 600,mv 65 64,mh 66 3 65,gz 67 65 (.len 0 (tq 66)),mh 68 4 65,gz 69 65 (.bin .sub (.node []) false (tq 67) (tq 68)),gz 70 65 (.bin .sub (.node []) false (tq 69) (kq 1)),gz 71 65 (.bin .gtr (.node []) false (tq 70) (kq 600)),pt 72 65 71]
 (cd 72
 (sr [mc 2 4]
 (.ret))
 (.skip)))
 (.seq (sr [mv 73 4,mv 74 3,ge 75 (.len 0 (tq 74)),bi 76 .lss 73 75]
 (cd 76
 (sr [mv 78 3,c1 79 118 78,mv 77 79,xt 80 77 0,xt 81 77 1,ge 5 (.alloc [.bool false,.aa] 139),ge 6 (.alloc [.bool false,.aa] 139),gn (.store 2 (tq 5) (tq 80)),gn (.store 2 (tq 6) (tq 81))]
 (sr [fa 82 1 5,ld 83 82,fa 84 1 6,ld 85 84,c2 86 119 83 85,mv 7 86]
 (sr [mv 87 7,ln 88 87,ni 89 88 1,mv 90 89,mh 91 7 90,gz 92 90 (.aU 1 (tq 91) (kq 0)),gz 93 90 (.load none (tq 92)),gz 94 90 (.bin .neq (.aM .int) true (tq 93) (kq 1)),pt 95 90 94]
 (cd 95
 (sr [mc 2 1]
 (.ret))
 (.skip)))))
 (.skip)))
 (sr [mc 2 0]
 (.ret)))))))))
def A.c47:A.F 47=some ⟨96,[.tmp 2],A.b47⟩:=by kernel_rfl
def A.k47:=@A.kk 47 _ _ _ A.c47 rfl
def Zr7(hk:ah s<s.length)(hp:cH (s.take (ah s))=true)(hd:cH (s.drop (ah s+1))=true)(p1:1<=(s.take (ah s)).length)(d1:1<=(s.drop (ah s+1)).length)(hl:s.length<=100000){h:T O}{N:Nat}:Fn A.C 118 [.str s] h N (fun v h' n'=>∃x y,v=.bg [.agg [.bool false,x],.agg [.bool false,y]]/\Dn h' n' x (aH (s.take (ah s)))/\Dn h' n' y (aH (s.drop (ah s+1)))):=by
 intro w
 rw[aO,A.k118 (by simp)]
 have cE:=fun st=>EF (s:=s) (st:=st) (by omega)
 have c1:¬((ah s:Int)=(s.length:Int)):=by omega
 have c2:¬(ah s=s.length):=by omega
 have c3:(ah s:Int)<=(s.length:Int):=by omega
 have c4:(ah s:Int)+1<=(s.length:Int):=by omega
 have c5:((ah s:Int)+1).toNat=ah s+1:=by omega
 simp[A.b118,cE,c1,c3,aC]
 refine aA (Qx hp p1 (by simp;omega)) ?_
 rintro v1 h1 n1 k1 ⟨x,rfl,hx⟩
 have nx:¬((aH (s.take (ah s)):Nat):Int)<0:=by omega
 simp(disch:=omega) [c5,aC,nx]
 refine aA (Qx hd d1 (by simp;omega)) ?_
 rintro v2 h2 n2 k2 ⟨y,rfl,hy⟩
 have ny:¬((aH (s.drop (ah s+1)):Nat):Int)<0:=by omega
 have fl:=k1.le
 have gX:=k2.le
 have hx:=Dn.ae hx k2
 have r0:=(k2.get N (by omega)).trans (k1.get N (by omega))
 have r1:=(k2.get (N+1) (by omega)).trans (k1.get (N+1) (by omega))
 simp at r0 r1
 have je:∀u∈([.bool false,.aa]:List V),∀k n,u≠V.int k n:=by intro u hu k n;simp at hu;rcases hu with rfl|rfl<;>simp
 have xp:=(Sl.form hx).one
 have pT:=(Sl.form hy).one
 unfold V.one at xp pT
 have M3:N<n1:=by omega
 have M4:N<n2:=by omega
 have M5:N+1<n2:=by omega
 have XR:¬N+1=N:=by omega
 simp[r0,r1,ny,ad,bO,xp,pT,M3,M4,M5,aS,aE,cA.cB,az]
 have sW:=Sl.setInt (i:=N) (c1:=[.bool false,x]) (e1:=139) (w1:=true) hx r0 je rfl
 have rZ:=Sl.setInt (i:=N) (c1:=[.bool false,x]) (e1:=139) (w1:=true) hy r0 je rfl
 have EH:(h2.set N (.cells [.bool false,x] 139 true)).get (N+1)=some (.cells [.bool false,.aa] 139 true):=by rw[T.ag,ar (by omega)];exact r1
 have u_:=Sl.setInt (i:=N+1) (c1:=[.bool false,y]) (e1:=139) (w1:=true) sW EH je rfl
 have wY:=Sl.setInt (i:=N+1) (c1:=[.bool false,y]) (e1:=139) (w1:=true) rZ EH je rfl
 have k0:=((ab.refl (h:=h) (n:=N)).new (.cells [.bool false,.aa] 139 true)).new (.cells [.bool false,.aa] 139 true)
 exact⟨(((k0.trans k1).trans k2).set (aW N)).set (by omega),x,y,⟨rfl,rfl⟩,u_,wY⟩
def Qy{s:aQ}(h:iP s=true):cH s=true/\1<=s.length:=by
 cases s with
 |nil=>cases h
 |cons c s=>
  unfold iP at h
  rw[ib]at h
  exact⟨h.1,by simp⟩
def Qz:ds 1=[1]:=by rw[zv (by decide),sO];rfl
def QA(h:cH s=true)(hl:s.length<=100000):(ds (aH s)).length<1000000000000:=by
 have h1:=AZ h
 have h2:(10:Nat)^s.length<=1000000000^s.length:=FH (by decide) _
 have:=ID (n:=aH s) (k:=s.length) (by omega)
 omega
def Zsa{s:aQ}(hl:s.length<=100000){h:T O}{N:Nat}:Fn A.C 47 [.str s] h N (fun v _ _=>v=.int .i64 (bz s:Nat)):=by
 intro w
 rw[aO,A.k47 (by simp)]
 cases s with
 |nil=>
  have cE:=fun st=>EF (s:=[]) (st:=st) (by simp)
  have eS:=fun st=>MD (s:=[]) (st:=st) (by simp)
  simp[A.b47,cE,ah,aC,eS,iP,az]
  exact⟨ab.refl,rfl⟩
 |cons c t=>
  by_cases h45:cK c=45
  ·have eh:bz (c::t)=jX true (t.take (ah t)) (decide (ah t<t.length)) (t.drop (ah t+1)):=by
    have:c.toNat=45:=by unfold cK at h45;omega
    simp[bz,I3,cI,bC,this]
   rw[eh]
   have cy:(0:Int)<(t.length:Int)+1:=by omega
   have cE:=fun st=>EF (s:=t) (st:=st) (by simp at hl;omega)
   have eS:=fun st=>MD (s:=t.take (ah t)) (st:=st) (by simp at hl ⊢;omega)
   have fK:(ah t:Int)<=(t.length:Int):=by have:=Ee t;omega
   have fB:ah t<=t.length:=Ee t
   have kK:(t.take (ah t)).length=ah t:=by simp;omega
   have iz:(t.drop (ah t+1)).length=t.length-(ah t+1):=by simp
   have dq:=h45
   have fP:=h45
   have oL:=h45
   simp at hl
   generalize hp:t.take (ah t)=p at*
   generalize kZ:t.drop (ah t+1)=d at*
   by_cases hA:iP p=true
   ·by_cases hz:p=[48]
    ·have e1:(p==[48])=true:=by simp[hz]
     simp(disch:=first|(simp;done)|omega|(simp only[bI,cC,bD];omega)|rfl) [A.b47,cy,cE,eS,hp,aC,dq,hA,e1,az]
     exact⟨ab.refl,by simp[jX,gb,hz]⟩
    ·have e1:(p==[48])=false:=by simp[hz]
     by_cases pg:ah t<t.length
     ·have fQ:(ah t:Int)<(t.length:Int):=by omega
      have pJ:=fun st=>MD (s:=d) (st:=st) (by omega)
      by_cases hD:iP d=true
      ·by_cases h48:d=[48]
       ·have e8:(d==[48])=true:=by simp[h48]
        simp(disch:=first|(simp;done)|omega|(simp only[bI,cC,bD];omega)|rfl) [A.b47,cy,cE,eS,hp,kZ,aC,dq,hA,e1,pg,fQ,pJ,hD,e8,az]
        exact⟨ab.refl,by simp[jX,gb,h48]⟩
       ·have e8:(d==[48])=false:=by simp[h48]
        by_cases yJ:d=[49]
        ·have e9:(d==[49])=true:=by simp[yJ]
         simp(disch:=first|(simp;done)|omega|(simp only[bI,cC,bD];omega)|rfl) [A.b47,cy,cE,eS,hp,kZ,aC,dq,hA,e1,pg,fQ,pJ,hD,e8,e9,az]
         exact⟨ab.refl,by simp[jX,gb,yJ]⟩
        ·have e9:(d==[49])=false:=by simp[yJ]
         have dE:gb true p true d=true:=by simp[gb,hA,hD,h48,yJ,hz]
         by_cases b6:600<p.length
         ·have b6':(600:Int)<(ah t:Int):=by omega
          simp(disch:=first|(simp;done)|omega|(simp only[bI,cC,bD];omega)|rfl) [A.b47,cy,cE,eS,hp,kZ,aC,dq,hA,e1,pg,fQ,pJ,hD,e8,e9,b6',az]
          exact⟨ab.refl,by simp[jX,dE,b6]⟩
         ·have b6':¬(600:Int)<(ah t:Int):=by omega
          by_cases b7:600<d.length
          ·have b7':(600:Int)<(t.length:Int)-(ah t:Int)-1:=by omega
           simp(disch:=first|(simp;done)|omega|(simp only[bI,cC,bD];omega)|rfl) [A.b47,cy,cE,eS,hp,kZ,aC,dq,hA,e1,pg,fQ,pJ,hD,e8,e9,b6',b7',az]
           exact⟨ab.refl,by simp[jX,dE,b6,b7]⟩
          ·have b7':¬(600:Int)<(t.length:Int)-(ah t:Int)-1:=by omega
           obtain⟨pa,pb⟩:=Qy hA
           obtain⟨da,db⟩:=Qy hD
           simp(disch:=first|(simp;done)|omega|(simp only[bI,cC,bD];omega)|rfl) [A.b47,cy,cE,eS,hp,kZ,aC,dq,hA,e1,pg,fQ,pJ,hD,e8,e9,b6',b7']
           refine aA (Zr7 pg (by rw[hp];exact pa) (by rw[kZ];exact da) (by rw[hp];exact pb) (by rw[kZ];exact db) (by omega)) ?_
           rintro v1 h1 n1 k1 ⟨x,y,rfl,hx,hy⟩
           rw[hp]at hx
           rw[kZ]at hy
           have xp:=(Sl.form hx).one
           have pT:=(Sl.form hy).one
           unfold V.one at xp pT
           have kx:=((((ab.refl (h:=h1) (n:=n1)).new (.cells [.bool false,.aa] 139 true)).new (.cells [.bool false,.aa] 139 true)).set (i:=n1) (o:=.cells [.bool false,x] 139 true) (aW n1)).set (i:=n1+1) (o:=.cells [.bool false,y] 139 true) (by omega)
           simp[ad,bO,xp,pT]
           refine aA (Qu (hx.ae kx) (hy.ae kx) (QA pa (by omega)) (QA da (by omega))) ?_
           rintro z h2 n2 k2 ed
           have kk:=(k1.trans kx).trans k2
           have lz:=ed.len
           rw[gk]at lz
           have ik:¬n1<N:=by have:=k1.le;omega
           have l9:¬n1+1<N:=by have:=k1.le;omega
           generalize hG:Nat.gcd (aH p) (aH d)=G at*
           by_cases g1:G=1
           ·subst g1
            rw[Qz]at lz
            obtain⟨b1,b2,b3,b4,b5,z1,z2,z3,z4⟩:=Sl.at (show Sl h2 n2 z (dI [1]) from Qz▸ed) (j:=0) (x:=.int .i64 1) rfl
            simp at z4
            simp[lz,z1,z3,z4,az,ik,l9]
            exact⟨kk,by simp[jX,dE,b6,b7,hG]⟩
           ·have td:jX true p true d=1:=by simp[jX,dE,b6,b7,hG,g1]
            by_cases g2:(ds G).length=1
            ·obtain⟨gx,M6⟩:=bp (l:=ds G) (k:=0) (by omega)
             obtain⟨b1,b2,b3,b4,b5,z1,z2,z3,z4⟩:=Sl.at (show Sl h2 n2 z (dI (ds G)) from ed) (gl M6)
             simp at z4
             have XT:¬gx=1:=fun hc=>g1 (by
              have hv:=fZ G
              rw[MF M6,yd (by omega)]at hv
              simp[vI,pI]at hv
              omega)
             simp[lz,g2,z1,z3,z4,XT,az,ik,l9,td]
             exact kk
            ·have rN:¬((ds G).length:Int)=1:=by omega
             simp[lz,rN,az,ik,l9,td]
             exact kk
      ·have hD:iP d=false:=by simpa using hD
       simp(disch:=first|(simp;done)|omega|(simp only[bI,cC,bD];omega)|rfl) [A.b47,cy,cE,eS,hp,kZ,aC,dq,hA,e1,pg,fQ,pJ,hD,az]
       exact⟨ab.refl,by simp[jX,gb,hD]⟩
     ·have XU:ah t=t.length:=by omega
      have fQ:¬(ah t:Int)<(t.length:Int):=by omega
      have dE:gb true p false d=true:=by simp[gb,hA,hz]
      have XV:¬600<d.length:=by omega
      have b7':¬(600:Int)<(t.length:Int)-(ah t:Int)-1:=by omega
      by_cases b6:600<p.length
      ·have b6':(600:Int)<(ah t:Int):=by omega
       simp(disch:=first|(simp;done)|omega|(simp only[bI,cC,bD];omega)|rfl) [A.b47,cy,cE,eS,hp,aC,dq,hA,e1,pg,fQ,b6',az]
       exact⟨ab.refl,by simp[jX,dE,b6]⟩
      ·have b6':¬(600:Int)<(ah t:Int):=by omega
       simp(disch:=first|(simp;done)|omega|(simp only[bI,cC,bD];omega)|rfl) [A.b47,cy,cE,eS,hp,aC,dq,hA,e1,pg,fQ,b6',b7',az]
       exact⟨ab.refl,by simp[jX,dE,b6,XV]⟩
   ·have hA:iP p=false:=by simpa using hA
    simp(disch:=first|(simp;done)|omega|(simp only[bI,cC,bD];omega)|rfl) [A.b47,cy,cE,eS,hp,aC,dq,hA,az]
    exact⟨ab.refl,by simp[jX,gb,hA]⟩
  ·have M7:cI (c::t)=false:=by
    simp only[cI,decide_eq_false_iff_not];unfold cK at h45;omega
   obtain⟨t,ht⟩:∃t',t'=c::t:=⟨c::t,rfl⟩
   rw[<-ht]at hl M7 ⊢
   have fP:t[0]?=some c:=by rw[ht];rfl
   have dq:t.head?=some c:=by rw[ht];rfl
   have hlen:0<t.length:=by rw[ht];simp
   have oL:t≠[]:=by rw[ht];simp
   have fe:(0:Int)<(t.length:Int):=by omega
   have cy:0<t.length:=hlen
   clear ht
   have eh:bz t=jX false (t.take (ah t)) (decide (ah t<t.length)) (t.drop (ah t+1)):=by
    simp[bz,I3,bC,M7]
   rw[eh]
   have cE:=fun st=>EF (s:=t) (st:=st) (by omega)
   have eS:=fun st=>MD (s:=t.take (ah t)) (st:=st) (by simp;omega)
   have fK:(ah t:Int)<=(t.length:Int):=by have:=Ee t;omega
   have fB:ah t<=t.length:=Ee t
   have kK:(t.take (ah t)).length=ah t:=by simp;omega
   have iz:(t.drop (ah t+1)).length=t.length-(ah t+1):=by simp
   generalize hp:t.take (ah t)=p at*
   generalize kZ:t.drop (ah t+1)=d at*
   by_cases hA:iP p=true
   ·have e1:True:=trivial
    by_cases pg:ah t<t.length
    ·have fQ:(ah t:Int)<(t.length:Int):=by omega
     have pJ:=fun st=>MD (s:=d) (st:=st) (by omega)
     by_cases hD:iP d=true
     ·by_cases h48:d=[48]
      ·have e8:(d==[48])=true:=by simp[h48]
       simp(disch:=first|(simp;done)|omega|(simp only[bI,cC,bD];omega)|rfl) [-getElem?_pos,A.b47,cy,cE,eS,hp,kZ,aC,fP,h45,hA,pg,fQ,pJ,hD,e8,az]
       exact⟨ab.refl,by simp[jX,gb,h48]⟩
      ·have e8:(d==[48])=false:=by simp[h48]
       by_cases yJ:d=[49]
       ·have e9:(d==[49])=true:=by simp[yJ]
        simp(disch:=first|(simp;done)|omega|(simp only[bI,cC,bD];omega)|rfl) [-getElem?_pos,A.b47,cy,cE,eS,hp,kZ,aC,fP,h45,hA,pg,fQ,pJ,hD,e8,e9,az]
        exact⟨ab.refl,by simp[jX,gb,yJ]⟩
       ·have e9:(d==[49])=false:=by simp[yJ]
        have dE:gb false p true d=true:=by simp[gb,hA,hD,h48,yJ]
        by_cases b6:600<p.length
        ·have b6':(600:Int)<(ah t:Int):=by omega
         simp(disch:=first|(simp;done)|omega|(simp only[bI,cC,bD];omega)|rfl) [-getElem?_pos,A.b47,cy,cE,eS,hp,kZ,aC,fP,h45,hA,pg,fQ,pJ,hD,e8,e9,b6',az]
         exact⟨ab.refl,by simp[jX,dE,b6]⟩
        ·have b6':¬(600:Int)<(ah t:Int):=by omega
         by_cases b7:600<d.length
         ·have b7':(600:Int)<(t.length:Int)-(ah t:Int)-1:=by omega
          simp(disch:=first|(simp;done)|omega|(simp only[bI,cC,bD];omega)|rfl) [-getElem?_pos,A.b47,cy,cE,eS,hp,kZ,aC,fP,h45,hA,pg,fQ,pJ,hD,e8,e9,b6',b7',az]
          exact⟨ab.refl,by simp[jX,dE,b6,b7]⟩
         ·have b7':¬(600:Int)<(t.length:Int)-(ah t:Int)-1:=by omega
          obtain⟨pa,pb⟩:=Qy hA
          obtain⟨da,db⟩:=Qy hD
          simp(disch:=first|(simp;done)|omega|(simp only[bI,cC,bD];omega)|rfl) [-getElem?_pos,A.b47,cy,cE,eS,hp,kZ,aC,fP,h45,hA,pg,fQ,pJ,hD,e8,e9,b6',b7']
          refine aA (Zr7 pg (by rw[hp];exact pa) (by rw[kZ];exact da) (by rw[hp];exact pb) (by rw[kZ];exact db) (by omega)) ?_
          rintro v1 h1 n1 k1 ⟨x,y,rfl,hx,hy⟩
          rw[hp]at hx
          rw[kZ]at hy
          have xp:=(Sl.form hx).one
          have pT:=(Sl.form hy).one
          unfold V.one at xp pT
          have kx:=((((ab.refl (h:=h1) (n:=n1)).new (.cells [.bool false,.aa] 139 true)).new (.cells [.bool false,.aa] 139 true)).set (i:=n1) (o:=.cells [.bool false,x] 139 true) (aW n1)).set (i:=n1+1) (o:=.cells [.bool false,y] 139 true) (by omega)
          simp[ad,bO,xp,pT]
          refine aA (Qu (hx.ae kx) (hy.ae kx) (QA pa (by omega)) (QA da (by omega))) ?_
          rintro z h2 n2 k2 ed
          have kk:=(k1.trans kx).trans k2
          have lz:=ed.len
          rw[gk]at lz
          have ik:¬n1<N:=by have:=k1.le;omega
          have l9:¬n1+1<N:=by have:=k1.le;omega
          generalize hG:Nat.gcd (aH p) (aH d)=G at*
          by_cases g1:G=1
          ·subst g1
           rw[Qz]at lz
           obtain⟨b1,b2,b3,b4,b5,z1,z2,z3,z4⟩:=Sl.at (show Sl h2 n2 z (dI [1]) from Qz▸ed) (j:=0) (x:=.int .i64 1) rfl
           simp at z4
           simp[lz,z1,z3,z4,az,ik,l9]
           exact⟨kk,by simp[jX,dE,b6,b7,hG]⟩
          ·have td:jX false p true d=1:=by simp[jX,dE,b6,b7,hG,g1]
           by_cases g2:(ds G).length=1
           ·obtain⟨gx,M6⟩:=bp (l:=ds G) (k:=0) (by omega)
            obtain⟨b1,b2,b3,b4,b5,z1,z2,z3,z4⟩:=Sl.at (show Sl h2 n2 z (dI (ds G)) from ed) (gl M6)
            simp at z4
            have XT:¬gx=1:=fun hc=>g1 (by
             have hv:=fZ G
             rw[MF M6,yd (by omega)]at hv
             simp[vI,pI]at hv
             omega)
            simp[lz,g2,z1,z3,z4,XT,az,ik,l9,td]
            exact kk
           ·have rN:¬((ds G).length:Int)=1:=by omega
            simp[lz,rN,az,ik,l9,td]
            exact kk
     ·have hD:iP d=false:=by simpa using hD
      simp(disch:=first|(simp;done)|omega|(simp only[bI,cC,bD];omega)|rfl) [-getElem?_pos,A.b47,cy,cE,eS,hp,kZ,aC,fP,h45,hA,pg,fQ,pJ,hD,az]
      exact⟨ab.refl,by simp[jX,gb,hD]⟩
    ·have XU:ah t=t.length:=by omega
     have fQ:¬(ah t:Int)<(t.length:Int):=by omega
     have dE:gb false p false d=true:=by simp[gb,hA]
     have XV:¬600<d.length:=by omega
     have b7':¬(600:Int)<(t.length:Int)-(ah t:Int)-1:=by omega
     by_cases b6:600<p.length
     ·have b6':(600:Int)<(ah t:Int):=by omega
      simp(disch:=first|(simp;done)|omega|(simp only[bI,cC,bD];omega)|rfl) [-getElem?_pos,A.b47,cy,cE,eS,hp,aC,fP,h45,hA,pg,fQ,b6',az]
      exact⟨ab.refl,by simp[jX,dE,b6]⟩
     ·have b6':¬(600:Int)<(ah t:Int):=by omega
      simp(disch:=first|(simp;done)|omega|(simp only[bI,cC,bD];omega)|rfl) [-getElem?_pos,A.b47,cy,cE,eS,hp,aC,fP,h45,hA,pg,fQ,b6',b7',az]
      exact⟨ab.refl,by simp[jX,dE,b6,XV]⟩
   ·have hA:iP p=false:=by simpa using hA
    simp(disch:=first|(simp;done)|omega|(simp only[bI,cC,bD];omega)|rfl) [-getElem?_pos,A.b47,cy,cE,eS,hp,aC,fP,h45,hA,az]
    exact⟨ab.refl,by simp[jX,gb,hA]⟩
variable {N:Nat} {a b:Int} {h:T O} {x y:V}
def A.b179:av:=sr [bx 2 139 0,bx 3 139 1,ge 4 (.ba (.const (.str [])))]
 (.seq (sr [fa 11 0 3,ld 12 11]
 (cd 12
 (.aX [lN 13 2 2,c1 14 229 13,lN 15 2 3,c1 16 229 15,gn (.store 2 (tq 2) (tq 14)),gn (.store 2 (tq 3) (tq 16))] [0,1,0,7,15,31])
 (.skip)))
 (sr [fa 17 1 2,ld 18 17,fa 19 1 3,ld 20 19,c2 21 119 18 20,mv 5 21]
 (sr [fa 23 1 2,ld 24 23,mv 25 5,c2 26 175 24 25,mv 22 26,xt 27 22 0,xt 28 22 1,mv 6 27,mv 7 28]
 (sr [fa 30 1 3,ld 31 30,mv 32 5,c2 33 175 31 32,mv 29 33,xt 34 29 0,xt 35 29 1,mv 8 34,mv 9 35]
 (sr [fa 36 0 2,ld 37 36,mv 38 6,c2 39 220 37 38,c1 40 230 39,mv 10 40]
 (.seq (sr [mv 41 8,ln 42 41,ei 43 42 1,mv 44 43,mg 45 8 44,gy 46 44 (.aU 1 (tq 45) (kq 0)),gy 47 44 (.load none (tq 46)),gy 48 44 (.bin .eql (.aM .int) true (tq 47) (kq 1)),pf 49 44 48]
 (cd 49
 (sr [mv 50 10,mv 4 50]
 (.ret))
 (.skip)))
 (sr [mv 51 10,ge 52 (.bin .add (.node []) false (tq 51) (.const (.str [47]))),mv 53 8,ge 54 (.call (fq 220) [.const (.bool false),tq 53]),c1 55 230 54,bi 56 .add 52 55,mv 4 56]
 (.ret))))))))
def A.c179:A.F 179=some ⟨57,[.tmp 4],A.b179⟩:=by kernel_rfl
def A.k179:=@A.kk 179 _ _ _ A.c179 rfl
def Nb(hb:0<b):b.natAbs/Nat.gcd a.natAbs b.natAbs=(Rat.divInt a b).den:=by
 have h:((Rat.divInt a b).den:Int)=((b.natAbs/Nat.gcd a.natAbs b.natAbs:Nat):Int):=by
  rw[Rat.den_divInt,ar (by omega),Int.gcd_comm]
  rfl
 exact(Int.ofNat_inj.1 h).symm
def Hw(hb:0<b):(if decide (a<0)=true then -((a.natAbs/Nat.gcd a.natAbs b.natAbs:Nat):Int) else ((a.natAbs/Nat.gcd a.natAbs b.natAbs:Nat):Int))=(Rat.divInt a b).num:=by
 rw[Rat.num_divInt,Int.sign_eq_one_of_pos hb,Int.one_mul,Int.gcd_comm]
 have hd:((Int.gcd a b:Nat):Int)∣a:=Int.gcd_dvd_left ..
 have he:Nat.gcd a.natAbs b.natAbs=Int.gcd a b:=rfl
 rw[he,Int.natCast_ediv]
 by_cases ha:a<0
 ·have h1:(a.natAbs:Int)= -a:=by omega
  simp only[ha,decide_true,if_true,h1]
  rw[Int.neg_ediv_of_dvd hd,Int.neg_neg]
 ·have h1:(a.natAbs:Int)=a:=by omega
  simp[ha,h1]
def Ye4{z:Int}:(aN z).length<=9*(ds z.natAbs).length+2:=by
 have:=Na (n:=z.natAbs)
 unfold aN
 split<;>simp<;>omega
def Ykw{m e:Nat}(h0:0<m)(he:m%1000000000=e):m=1↔(ds m).length=1/\e=1:=by
 constructor
 ·rintro rfl
  exact⟨by have:=Ykv (r:=1) (by omega);rw[<-this];decide,by omega⟩
 ·rintro⟨h1,h2⟩
  have h3:=uQ (fT m)
  rw[fZ,h1,QC,Nat.pow_one]at h3
  omega
def Ztb(hx:Rg h N x a)(hy:Rg h N y b)(hb:0<b)(l3:(ds a.natAbs).length<100000000000)(l4:(ds b.natAbs).length<100000000000):Fn A.C 179 [x,y] h N (fun u _ _=>u=.str (a_ (Rat.divInt a b))):=by
 intro w
 obtain⟨u,rfl,kV⟩:=hx
 obtain⟨v,rfl,l7⟩:=hy
 have o1:=Sl.form kV |>.one
 have o2:=Sl.form kV |>.cells
 have o3:=Sl.form l7 |>.one
 have o4:=Sl.form l7 |>.cells
 unfold V.one at o1 o3
 unfold V.cells at o2 o4
 have l1:(ds a.natAbs).length<1000000000000:=by omega
 have l2:(ds b.natAbs).length<1000000000000:=by omega
 have rT:¬b<0:=by omega
 rw[show decide (b<0)=false by simp[rT]]
 have kB:=(((ab.refl (h:=h) (n:=N)).new (.cells [.bool (decide (a<0)),u] 139 true)).new (.cells [.bool false,v] 139 true))
 have hu:=Sl.ae kV kB
 have hv:=Sl.ae l7 kB
 rw[aO,A.k179 (by simp)]
 simp[A.b179,o1,o3,aS]
 generalize hB:(h.set N (.cells [.bool (decide (a<0)),u] 139 true)).set (N+1) (.cells [.bool false,v] 139 true)=HB at*
 have gN:HB.get N=some (.cells [.bool (decide (a<0)),u] 139 true):=by rw[<-hB];simp
 have gM:HB.get (N+1)=some (.cells [.bool false,v] 139 true):=by rw[<-hB];simp
 refine aA (Qu hu hv l1 l2) ?_
 rintro v1 h1 n1 k1 q1
 have CW:=(k1.get N (by omega)).trans gN
 have CX:=(k1.get (N+1) (by omega)).trans gM
 have rY:0<Nat.gcd a.natAbs b.natAbs:=Ot _ (by omega)
 have lg:(ds (Nat.gcd a.natAbs b.natAbs)).length<1000000000000:=rW (tW (Nat.gcd_le_right _ (by omega))) l2
 have yi:=k1.le
 simp[CW,aS]
 refine aA (MY (hu.ae k1) q1 rY l1 lg) ?_
 rintro _ h2 n2 k2 ⟨q,r1,rfl,q2, -⟩
 have Hx:=(k2.get (N+1) (by omega)).trans CX
 have kI:=k2.le
 simp[Hx,aS]
 refine aA (MY ((hv.ae k1).ae k2) (q1.ae k2) rY l2 lg) ?_
 rintro _ h3 n3 k3 ⟨d,r2,rfl,q3, -⟩
 have X7:=(k3.get N (by omega)).trans ((k2.get N (by omega)).trans CW)
 have yV:=k3.le
 rw[Nb hb]at q3
 have lq:(ds (a.natAbs/Nat.gcd a.natAbs b.natAbs)).length<100000000000:=rW (tW (uH _ _)) l3
 have Aj:(ds (Rat.divInt a b).den).length<100000000000:=by rw[<-Nb hb];exact rW (tW (uH _ _)) l4
 simp[X7,aS]
 refine aA (xn (n:=a.natAbs/Nat.gcd a.natAbs b.natAbs) (q2.ae k3) (fT _) (fZ _) (by omega)) ?_
 rintro v4 h4 n4 k4 q4
 have HV:=k4.le
 rw[Hw hb]at q4
 simp[]
 refine aA (Jt q4 (by rw[<-Hw hb];split<;>(first|rw[yS,dJ]|rw[dJ])<;>exact lq)) ?_
 rintro _ h5 n5 k5 rfl
 have le5:=k5.le
 obtain⟨m,hm⟩:∃m,(Rat.divInt a b).den=m:=⟨_,rfl⟩
 have fV:0<m:=by rw[<-hm];exact Rat.den_pos _
 rw[hm]at q3 Aj
 have cE:=Ye4 (z:=(Rat.divInt a b).num)
 have Hy:(ds (Rat.divInt a b).num.natAbs).length<100000000000:=by rw[<-Hw hb];split<;>(first|rw[yS,dJ]|rw[dJ])<;>exact lq
 have kY:a_ (Rat.divInt a b)=if m=1 then aN (Rat.divInt a b).num else aN (Rat.divInt a b).num++47::aq m:=by unfold a_;rw[hm]
 rw[kY]
 generalize aN (Rat.divInt a b).num=s at*
 have CY:Dn h5 n5 d m:=(q3.ae k4).ae k5
 have ld:=Sl.len CY
 rw[gk]at ld
 have qi:(ds m).length≠0:=fun hc=>(by omega:m≠0) (B7.1 (qj hc))
 have hg:=Pj (i:=0) (n:=m) (by omega)
 rw[DC,Nat.div_one]at hg
 obtain⟨e,he⟩:∃e,m%1000000000=e:=⟨_,rfl⟩
 rw[he]at hg
 have sX:m=1↔(ds m).length=1/\e=1:=Ykw fV he
 obtain⟨i,o,c,te,rw_,p1,p2,p3,p4⟩:=Sl.at CY (gl hg)
 rw[ka]at p4
 obtain⟨L,hL⟩:∃L,(ds m).length=L:=⟨_,rfl⟩
 rw[hL]at ld sX
 have iz:=Na (n:=m)
 rw[hL]at iz Aj
 have dh:IntKind.max .i64=9223372036854775807:=rfl
 have b1:¬(9223372036854775807:Int)<(s.length:Int)+1:=by omega
 have b2:¬(9223372036854775807:Int)<(s.length:Int)+1+((aq m).length:Int):=by omega
 have yW:aN (m:Int)=aq m:=by unfold aN;rw[ar (by omega),dJ]
 have vJ:(ds m).length<1152921504606846976:=by omega
 have K5:ab h N h5 n5:=((((kB.trans k1).trans k2).trans k3).trans k4).trans k5
 by_cases mq:m=1
 ·obtain⟨rfl,rfl⟩:=sX.1 mq
  rw[aF mq]
  clear cE Hy iz b1 b2 vJ Aj
  simp[ld,p1,p3,p4,az]
  exact K5
 ·rw[ar mq]
  by_cases EG:L=1
  ·have LW:¬e=1:=fun hc=>mq (sX.2 ⟨EG,hc⟩)
   have uy:¬(e:Int)=1:=by omega
   subst EG
   clear cE Hy iz
   simp[ld,p1,p3,p4,uy,gO,dh,b1]
   refine aA (xn (b:=false) (n:=m) CY (fT _) (fZ _) vJ) ?_
   rintro v6 h6 n6 k6 q6
   have q7:Rg h6 n6 v6 (m:Int):=by simpa using q6
   simp[]
   refine aA (Jt q7 (by rw[dJ,hL];exact Aj)) ?_
   rintro _ h7 n7 k7 rfl
   rw[yW]
   simp[gO,dh,b2,az]
   exact(K5.trans k6).trans k7
  ·have X8:¬(L:Int)=1:=by omega
   clear cE Hy iz
   simp[ld,X8,gO,dh,b1]
   refine aA (xn (b:=false) (n:=m) CY (fT _) (fZ _) vJ) ?_
   rintro v6 h6 n6 k6 q6
   have q7:Rg h6 n6 v6 (m:Int):=by simpa using q6
   simp[]
   refine aA (Jt q7 (by rw[dJ,hL];exact Aj)) ?_
   rintro _ h7 n7 k7 rfl
   rw[yW]
   simp[gO,dh,b2,az]
   exact(K5.trans k6).trans k7
def Ztc{P Q:Int}(hx:Rg h N x P)(hy:Rg h N y Q)(CQ:Q<0)(l3:(ds P.natAbs).length<100000000000)(l4:(ds Q.natAbs).length<100000000000):Fn A.C 179 [x,y] h N (fun u _ _=>u=.str (a_ (Rat.divInt P Q))):=by
 intro w
 obtain⟨u0,rfl,kV⟩:=hx
 obtain⟨v0,rfl,l7⟩:=hy
 have o1:=Sl.form kV |>.one
 have o2:=Sl.form kV |>.cells
 have o3:=Sl.form l7 |>.one
 have o4:=Sl.form l7 |>.cells
 unfold V.one at o1 o3
 unfold V.cells at o2 o4
 have oM:Rg h N (.agg [.bool (decide (P<0)),u0]) P:=⟨u0,rfl,kV⟩
 have xf:Rg h N (.agg [.bool true,v0]) Q:=⟨v0,by simp[CQ],l7⟩
 rw[show decide (Q<0)=true by simp[CQ]]
 have kA:=(((ab.refl (h:=h) (n:=N)).new (.cells [.bool (decide (P<0)),u0] 139 true)).new (.cells [.bool true,v0] 139 true))
 rw[aO,A.k179 (by simp)]
 simp[A.b179,o1,o3,aS,aE]
 generalize hA:(h.set N (.cells [.bool (decide (P<0)),u0] 139 true)).set (N+1) (.cells [.bool true,v0] 139 true)=HA at*
 have gN0:HA.get N=some (.cells [.bool (decide (P<0)),u0] 139 true):=by rw[<-hA];simp
 have gM0:HA.get (N+1)=some (.cells [.bool true,v0] 139 true):=by rw[<-hA];simp
 refine aA (Zwz (oM.ae kA) (by omega)) ?_
 rintro _ m1 t1 j1 q1
 obtain⟨a,ha⟩:∃a,a= -P:=⟨_,rfl⟩
 rw[<-ha]at q1
 obtain⟨u,rfl,xO⟩:=q1
 have i1:=j1.le
 have CW:=(j1.get N (by omega)).trans gN0
 have CX:=(j1.get (N+1) (by omega)).trans gM0
 simp[CX,aS,aE]
 refine aA (Zwz ((xf.ae kA).ae j1) (by omega)) ?_
 rintro _ m2 t2 j2 q2
 obtain⟨b,kW⟩:∃b,b= -Q:=⟨_,rfl⟩
 rw[<-kW]at q2
 have hb:0<b:=by omega
 obtain⟨v,rfl,jt⟩:=q2
 rw[show decide (b<0)=false by simp;omega]
 have h_:Rat.divInt P Q=Rat.divInt a b:=by rw[ha,kW];exact(Rat.neg_divInt_neg P Q).symm
 rw[h_]
 have n1:=Yqm (b:=decide (P<0)) (Sl.form kV)
 have n2:=Yqm (b:=true) (Sl.form l7)
 have i2:=j2.le
 have HT:=(j2.get N (by omega)).trans CW
 have Hx:=(j2.get (N+1) (by omega)).trans CX
 have s1:=Sl.form xO |>.one
 have s2:=Sl.form xO |>.cells
 have s3:=Sl.form jt |>.one
 have s4:=Sl.form jt |>.cells
 unfold V.one at s1 s3
 unfold V.cells at s2 s4
 have g1:N+1<t1:=by omega
 have g2:N+1<t2:=by omega
 have g3:N<t2:=by omega
 simp[HT,Hx,s1,s3,ad,bO,aS,cA.cB,g1,g2,g3]
 have X9:(m2.set N (.cells [.bool (decide (a<0)),u] 139 true)).get (N+1)=some (.cells [.bool true,v0] 139 true):=by rw[T.ag,ar (by omega)];exact Hx
 have kB:=((((kA.trans j1).trans j2).set (i:=N) (o:=.cells [.bool (decide (a<0)),u] 139 true) (by omega))).set (i:=N+1) (o:=.cells [.bool false,v] 139 true) (by omega)
 have hu:=Sl.setInt (Sl.setInt (xO.ae j2) HT n1 (c1:=[.bool (decide (a<0)),u]) (e1:=139) (w1:=true) rfl) X9 n2 (c1:=[.bool false,v]) (e1:=139) (w1:=true) rfl
 have hv:=Sl.setInt (Sl.setInt jt HT n1 (c1:=[.bool (decide (a<0)),u]) (e1:=139) (w1:=true) rfl) X9 n2 (c1:=[.bool false,v]) (e1:=139) (w1:=true) rfl
 generalize hB:(m2.set N (.cells [.bool (decide (a<0)),u] 139 true)).set (N+1) (.cells [.bool false,v] 139 true)=HB at*
 have gN:HB.get N=some (.cells [.bool (decide (a<0)),u] 139 true):=by rw[<-hB];simp
 have gM:HB.get (N+1)=some (.cells [.bool false,v] 139 true):=by rw[<-hB];simp
 have ea:a.natAbs=P.natAbs:=by omega
 have eb:b.natAbs=Q.natAbs:=by omega
 rw[<-ea]at l3
 rw[<-eb]at l4
 have l1:(ds a.natAbs).length<1000000000000:=by omega
 have l2:(ds b.natAbs).length<1000000000000:=by omega
 clear o1 o2 o3 o4
 have o1:=s1
 have o2:=s2
 have o3:=s3
 have o4:=s4
 clear s1 s2 s3 s4 X9 HT Hx CW CX gN0 gM0 n1 n2 hA h_
 refine aA (Qu hu hv l1 l2) ?_
 rintro v1 h1 n1 k1 q1
 have CW:=(k1.get N (by omega)).trans gN
 have CX:=(k1.get (N+1) (by omega)).trans gM
 have rY:0<Nat.gcd a.natAbs b.natAbs:=Ot _ (by omega)
 have lg:(ds (Nat.gcd a.natAbs b.natAbs)).length<1000000000000:=rW (tW (Nat.gcd_le_right _ (by omega))) l2
 have yi:=k1.le
 simp[CW,aS]
 refine aA (MY (hu.ae k1) q1 rY l1 lg) ?_
 rintro _ h2 n2 k2 ⟨q,r1,rfl,q2, -⟩
 have Hx:=(k2.get (N+1) (by omega)).trans CX
 have kI:=k2.le
 simp[Hx,aS]
 refine aA (MY ((hv.ae k1).ae k2) (q1.ae k2) rY l2 lg) ?_
 rintro _ h3 n3 k3 ⟨d,r2,rfl,q3, -⟩
 have X7:=(k3.get N (by omega)).trans ((k2.get N (by omega)).trans CW)
 have yV:=k3.le
 rw[Nb hb]at q3
 have lq:(ds (a.natAbs/Nat.gcd a.natAbs b.natAbs)).length<100000000000:=rW (tW (uH _ _)) l3
 have Aj:(ds (Rat.divInt a b).den).length<100000000000:=by rw[<-Nb hb];exact rW (tW (uH _ _)) l4
 simp[X7,aS]
 refine aA (xn (n:=a.natAbs/Nat.gcd a.natAbs b.natAbs) (q2.ae k3) (fT _) (fZ _) (by omega)) ?_
 rintro v4 h4 n4 k4 q4
 have HV:=k4.le
 rw[Hw hb]at q4
 simp[]
 refine aA (Jt q4 (by rw[<-Hw hb];split<;>(first|rw[yS,dJ]|rw[dJ])<;>exact lq)) ?_
 rintro _ h5 n5 k5 rfl
 have le5:=k5.le
 obtain⟨m,hm⟩:∃m,(Rat.divInt a b).den=m:=⟨_,rfl⟩
 have fV:0<m:=by rw[<-hm];exact Rat.den_pos _
 rw[hm]at q3 Aj
 have cE:=Ye4 (z:=(Rat.divInt a b).num)
 have Hy:(ds (Rat.divInt a b).num.natAbs).length<100000000000:=by rw[<-Hw hb];split<;>(first|rw[yS,dJ]|rw[dJ])<;>exact lq
 have kY:a_ (Rat.divInt a b)=if m=1 then aN (Rat.divInt a b).num else aN (Rat.divInt a b).num++47::aq m:=by unfold a_;rw[hm]
 rw[kY]
 generalize aN (Rat.divInt a b).num=s at*
 have CY:Dn h5 n5 d m:=(q3.ae k4).ae k5
 have ld:=Sl.len CY
 rw[gk]at ld
 have qi:(ds m).length≠0:=fun hc=>(by omega:m≠0) (B7.1 (qj hc))
 have hg:=Pj (i:=0) (n:=m) (by omega)
 rw[DC,Nat.div_one]at hg
 obtain⟨e,he⟩:∃e,m%1000000000=e:=⟨_,rfl⟩
 rw[he]at hg
 have sX:m=1↔(ds m).length=1/\e=1:=Ykw fV he
 obtain⟨i,o,c,te,rw_,p1,p2,p3,p4⟩:=Sl.at CY (gl hg)
 rw[ka]at p4
 obtain⟨L,hL⟩:∃L,(ds m).length=L:=⟨_,rfl⟩
 rw[hL]at ld sX
 have iz:=Na (n:=m)
 rw[hL]at iz Aj
 have dh:IntKind.max .i64=9223372036854775807:=rfl
 have b1:¬(9223372036854775807:Int)<(s.length:Int)+1:=by omega
 have b2:¬(9223372036854775807:Int)<(s.length:Int)+1+((aq m).length:Int):=by omega
 have yW:aN (m:Int)=aq m:=by unfold aN;rw[ar (by omega),dJ]
 have vJ:(ds m).length<1152921504606846976:=by omega
 have K5:ab h N h5 n5:=((((kB.trans k1).trans k2).trans k3).trans k4).trans k5
 by_cases mq:m=1
 ·obtain⟨rfl,rfl⟩:=sX.1 mq
  rw[aF mq]
  clear cE Hy iz b1 b2 vJ Aj
  simp[ld,p1,p3,p4,az]
  exact K5
 ·rw[ar mq]
  by_cases EG:L=1
  ·have LW:¬e=1:=fun hc=>mq (sX.2 ⟨EG,hc⟩)
   have uy:¬(e:Int)=1:=by omega
   subst EG
   clear cE Hy iz
   simp[ld,p1,p3,p4,uy,gO,dh,b1]
   refine aA (xn (b:=false) (n:=m) CY (fT _) (fZ _) vJ) ?_
   rintro v6 h6 n6 k6 q6
   have q7:Rg h6 n6 v6 (m:Int):=by simpa using q6
   simp[]
   refine aA (Jt q7 (by rw[dJ,hL];exact Aj)) ?_
   rintro _ h7 n7 k7 rfl
   rw[yW]
   simp[gO,dh,b2,az]
   exact(K5.trans k6).trans k7
  ·have X8:¬(L:Int)=1:=by omega
   clear cE Hy iz
   simp[ld,X8,gO,dh,b1]
   refine aA (xn (b:=false) (n:=m) CY (fT _) (fZ _) vJ) ?_
   rintro v6 h6 n6 k6 q6
   have q7:Rg h6 n6 v6 (m:Int):=by simpa using q6
   simp[]
   refine aA (Jt q7 (by rw[dJ,hL];exact Aj)) ?_
   rintro _ h7 n7 k7 rfl
   rw[yW]
   simp[gO,dh,b2,az]
   exact(K5.trans k6).trans k7
def Ya(hx:Rg h N x a)(hy:Rg h N y b)(hb:b≠0)(l3:(ds a.natAbs).length<100000000000)(l4:(ds b.natAbs).length<100000000000):Fn A.C 179 [x,y] h N (fun u _ _=>u=.str (a_ (Rat.divInt a b))):=by
 rcases Int.lt_or_gt_of_ne hb with hb|hb
 ·exact Ztc hx hy hb l3 l4
 ·exact Ztb hx hy hb l3 l4
def A.re:av:=.seq (sr [mv 5 1,bc 6 .gtr 5 0]
 (cd 6
 (.skip)
 (.exit 0)))
 (.block 1 (.aX [mv 7 1,mv 8 0,mv 9 1,bi 10 .rem 8 9,mv 0 7,mv 1 10] [0,0,0,6,3,31]))
def A.b227:av:=sr [mc 4 0]
 (.seq (.block 0 (.loop A.re))
 (sr [mv 11 0,mv 4 11]
 (.ret)))
def A.c227:A.F 227=some ⟨12,[.tmp 4],A.b227⟩:=by kernel_rfl
def A.k227:=@A.kk 227 _ _ _ A.c227 rfl
def Yd9{a b:Nat}{st:St}(ha:a<9223372036854775808)(hb:b<9223372036854775808):A.C.call (.func 227 [] []) [.int .i64 a,.int .i64 b] st=some (.int .i64 (Nat.gcd a b:Nat),st):=by
 apply Call.eq
 rw[aO,A.k227 (by simp)]
 simp[A.b227]
 refine bP [(0,1),(5,10)] (fun e r s1=>s1=⟨st.h,st.n,[]⟩/\e=.exit 0/\r.get 0=some (.int .i64 (Nat.gcd a b:Nat))) (fun q r s1=>s1=⟨st.h,st.n,[]⟩/\q<9223372036854775808/\r.get 1=some (.int .i64 q)/\∃k:Nat,k<9223372036854775808/\r.get 0=some (.int .i64 k)/\Nat.gcd k q=Nat.gcd a b) b ?_ ?_ ?_
 ·exact⟨rfl,hb,by simp,a,ha,by simp,rfl⟩
 ·rintro q r _ hr hf ⟨rfl,hq,h1,k,hk,h0,hg⟩
  rw[bq]
  by_cases hz:q=0
  ·subst hz
   rw[Nat.gcd_zero_right]at hg
   simp[A.re,hf,h0,h1,hg]
  ·have i1:(0:Int)<(q:Int):=by omega
   have i2:0<q:=by omega
   have i3:¬(q:Int)=0:=by omega
   have t1:(k:Int).tmod q=((k%q:Nat):Int):=by rw[Ds (by omega)];omega
   have t2:bu .i64 ((k%q:Nat):Int)=((k%q:Nat):Int):=cF (by omega) (by have:=kh k i2;omega)
   have ay:=kh k i2
   simp[A.re,hf,h0,h1,i2,hz,t1,cA.cB]
   exact⟨k%q,ay,by omega,by simp,q,hq,rfl,by rw[<-hg,Nat.gcd_comm k q,Nat.gcd_rec q k,Nat.gcd_comm]⟩
 ·rintro _ r _ hr ⟨rfl,rfl,h0⟩
  simp[h0]
def A.b178:av:=sr [ge 4 (.ba (.const (.str [])))]
 (.seq (sr [mv 7 0,ge 8 (.bin .lss (.node []) false (tq 7) (.const (.int .i64 (-4000000000000000000)))),mv 9 8,mh 10 0 9,gz 11 9 (.bin .gtr (.node []) false (tq 10) (kq 4000000000000000000)),pt 12 9 11,mv 13 12,mh 14 1 13,gz 15 13 (.bin .lss (.node []) false (tq 14) (.const (.int .i64 (-4000000000000000000)))),pt 16 13 15,mv 17 16,mh 18 1 17,gz 19 17 (.bin .gtr (.node []) false (tq 18) (kq 4000000000000000000)),pt 20 17 19]
 (cd 20
 (sr [mv 21 0,c1 22 174 21,mv 23 1,c1 24 174 23,c2 25 179 22 24,mv 4 25]
 (.ret))
 (.skip)))
 (.seq (sr [mv 26 1,bc 27 .lss 26 0]
 (cd 27
 (.aR [mv 28 0,ge 29 (.bin .sub (.node []) false (kq 0) (tq 28)),mv 30 1,ge 31 (.bin .sub (.node []) false (kq 0) (tq 30)),mv 0 29,mv 1 31])
 (.skip)))
 (sr [mv 32 0,mv 33 0,ge 34 (.bin .sub (.node []) false (kq 0) (tq 33)),ge 35 (.mx [tq 32,tq 34]),mv 36 1,c2 37 227 35 36,mv 5 37]
 (.seq (.aX [mv 38 0,mv 39 5,bi 40 .quo 38 39,mv 41 1,mv 42 5,bi 43 .quo 41 42,mv 0 40,mv 1 43] [0,0,3,0,0,24,7,127])
 (sr [ge 6 (.ba (.const (.str [])))]
 (.seq (sr [mv 44 0,bc 45 .lss 44 0]
 (cd 45
 (.aR [ge 6 (.ba (.const (.str [45])))])
 (.skip)))
 (sr [mv 46 6,mv 47 0,mv 48 0,ge 49 (.bin .sub (.node []) false (kq 0) (tq 48)),ge 50 (.mx [tq 47,tq 49]),ge 51 (.call (fq 228) [tq 50,.const (.int .i64 1)]),bi 52 .add 46 51,mv 6 52]
 (.seq (sr [mv 53 1,bc 54 .gtr 53 1]
 (cd 54
 (.aR [mv 55 6,ge 56 (.bin .add (.node []) false (tq 55) (.const (.str [47]))),mv 57 1,ge 58 (.call (fq 228) [tq 57,.const (.int .i64 1)]),bi 59 .add 56 58,mv 6 59])
 (.skip)))
 (sr [mv 60 6,mv 4 60]
 (.ret))))))))))
def A.c178:A.F 178=some ⟨61,[.tmp 4],A.b178⟩:=by kernel_rfl
def A.k178:=@A.kk 178 _ _ _ A.c178 rfl
def EI{z:Int}:AO [.int .i64 z,.int .i64 (-z)]=some (.int .i64 (z.natAbs:Nat)):=by
 have h:AO [.int .i64 z,.int .i64 (-z)]=some (.int .i64 (if z< -z then -z else z)):=rfl
 rw[h]
 congr 2
 split<;>omega
def Ykt{a:Int}{m:Nat}(hm:0<m):(Rat.divInt a m).num=a.tdiv (Nat.gcd a.natAbs m:Nat)/\(Rat.divInt a m).num.natAbs<=a.natAbs/\(Rat.divInt a m).den=m/Nat.gcd a.natAbs m:=by
 have hb:(0:Int)<(m:Int):=by omega
 have h1:=Hw (a:=a) hb
 have h2:=Nb (a:=a) hb
 rw[dJ]at h1 h2
 have hd:((Nat.gcd a.natAbs m:Nat):Int)∣a:=Int.gcd_dvd_left (a:=a) (b:=(m:Int))
 refine⟨?_,?_,h2.symm⟩
 ·rw[Int.tdiv_eq_ediv_of_dvd hd,Rat.num_divInt,Int.sign_eq_one_of_pos hb,Int.one_mul,Int.gcd_comm]
  rfl
 ·rw[<-h1]
  have:=uH a.natAbs (Nat.gcd a.natAbs m)
  generalize a.natAbs/Nat.gcd a.natAbs m=k at*
  split
  ·rw[yS,dJ];exact this
  ·rw[dJ];exact this
def Yqj{a:Int}{m:Nat}{st:St}(hm:0<m)(h1: -4000000000000000000<=a)(h2:a<=4000000000000000000)(h3:m<=4000000000000000000):A.C.call (.func 178 [] []) [.int .i64 a,.int .i64 m] st=some (.str (a_ (Rat.divInt a m)),st):=by
 apply Call.eq
 rw[aO,A.k178 (by simp)]
 have c1:¬a< -4000000000000000000:=by omega
 have c2:¬4000000000000000000<a:=by omega
 have c3:¬(m:Int)< -4000000000000000000:=by omega
 have c4:¬4000000000000000000<(m:Int):=by omega
 have c5:¬(m:Int)<0:=by omega
 have w1:bu .i64 (-a)= -a:=cF (by omega) (by omega)
 have w2:bu .i64 (0-a)= -a:=by rw[Int.zero_sub];exact w1
 have hg:=fun st=>Yd9 (a:=a.natAbs) (b:=m) (st:=st) (by omega) (by omega)
 obtain⟨e1,e2,e3⟩:=Ykt (a:=a) hm
 have yG:0<(Rat.divInt a m).den:=Rat.den_pos _
 have kY:a_ (Rat.divInt a m)=if (Rat.divInt a m).den=1 then aN (Rat.divInt a m).num else aN (Rat.divInt a m).num++47::aq (Rat.divInt a m).den:=rfl
 rw[kY]
 clear kY
 have lD:0<Nat.gcd a.natAbs m:=Ot _ hm
 generalize (Rat.divInt a m).num=P at*
 generalize (Rat.divInt a m).den=D at*
 generalize Nat.gcd a.natAbs m=g at*
 have hDm:D<=m:=by rw[e3];exact uH _ _
 have e4:(m:Int).tdiv (g:Int)=(D:Int):=by rw[AK (by omega),e3];rfl
 have g0:¬(g:Int)=0:=by omega
 have g1:¬g=0:=by omega
 have v1:bu .i64 P=P:=cF (by omega) (by omega)
 have v2:bu .i64 (-P)= -P:=cF (by omega) (by omega)
 have v3:bu .i64 (D:Int)=(D:Int):=cF (by omega) (by omega)
 have d1:∀st,A.C.call (.func 228 [] []) [.int .i64 (P.natAbs:Nat),.int .i64 1] st=some (.str (aq P.natAbs),st):=fun st=>(Js (n:=P.natAbs) (m:=1) (st:=st) (by omega) (by omega)).trans (by rw[Lg])
 have d2:∀st,A.C.call (.func 228 [] []) [.int .i64 D,.int .i64 1] st=some (.str (aq D),st):=fun st=>(Js (n:=D) (m:=1) (st:=st) (by omega) (by omega)).trans (by rw[Lg])
 have x1:(aq P.natAbs).length<30:=by
  have:(di P.natAbs).length<=19:=pd.1 (by omega)
  unfold aq;split<;>simp;omega
 have x2:(aq D).length<30:=by
  have:(di D).length<=19:=pd.1 (by omega)
  unfold aq;split<;>simp;omega
 have dh:IntKind.max .i64=9223372036854775807:=rfl
 have y1:¬(9223372036854775807:Int)<((aq P.natAbs).length:Int):=by omega
 have y2:¬(9223372036854775807:Int)<1+((aq P.natAbs).length:Int):=by omega
 have z1:D=1\/(¬D=1/\1<D):=by omega
 rcases z1 with rfl|⟨z1,z2⟩<;>by_cases hP:P<0
 ·simp[A.b178,c1,c2,c3,c4,c5,w1,qy,EI,hg,<-e1,e4,g1,v1,v2,hP,d1,gO,dh,y2,aN,cA.cB]
 ·simp[A.b178,c1,c2,c3,c4,c5,w1,qy,EI,hg,<-e1,e4,g1,v1,v2,hP,d1,gO,dh,y1,aN,cA.cB]
 ·have z3:(1:Int)<(D:Int):=by omega
  have y3:¬(9223372036854775807:Int)<((aq P.natAbs).length:Int)+1+1:=by omega
  have y4:¬(9223372036854775807:Int)<((aq P.natAbs).length:Int)+1+1+((aq D).length:Int):=by omega
  simp[A.b178,c1,c2,c3,c4,c5,w1,qy,EI,hg,<-e1,e4,g1,v1,v2,v3,hP,d1,d2,gO,dh,y2,aN,cA.cB,z1,z3,y3,y4]
 ·have z3:(1:Int)<(D:Int):=by omega
  have y3:¬(9223372036854775807:Int)<((aq P.natAbs).length:Int)+1:=by omega
  have y4:¬(9223372036854775807:Int)<((aq P.natAbs).length:Int)+1+((aq D).length:Int):=by omega
  simp[A.b178,c1,c2,c3,c4,c5,w1,qy,EI,hg,<-e1,e4,g1,v1,v2,v3,hP,d1,d2,gO,dh,y1,aN,cA.cB,z1,z3,y3,y4]
def Yqk{p q:Int}{st:St}(hq:q<0)(h1: -4000000000000000000<=p)(h2:p<=4000000000000000000)(h3: -4000000000000000000<=q):A.C.call (.func 178 [] []) [.int .i64 p,.int .i64 q] st=some (.str (a_ (Rat.divInt p q)),st):=by
 apply Call.eq
 rw[aO,A.k178 (by simp)]
 have c1:¬p< -4000000000000000000:=by omega
 have c2:¬4000000000000000000<p:=by omega
 have c3:¬q< -4000000000000000000:=by omega
 have c4:¬4000000000000000000<q:=by omega
 obtain⟨a,ha⟩:∃a,a= -p:=⟨_,rfl⟩
 obtain⟨m,mq⟩:∃m:Nat,(m:Int)= -q:=⟨(-q).toNat,by omega⟩
 have hm:0<m:=by omega
 have c5:bu .i64 (-p)=a:=by rw[<-ha];exact cF (by omega) (by omega)
 have c6:bu .i64 (-q)=(m:Int):=by rw[<-mq];exact cF (by omega) (by omega)
 have h_:Rat.divInt p q=Rat.divInt a m:=by rw[ha,mq];exact(Rat.neg_divInt_neg p q).symm
 rw[h_]
 clear h_
 have w1:bu .i64 (-a)= -a:=cF (by omega) (by omega)
 have w2:bu .i64 (0-a)= -a:=by rw[Int.zero_sub];exact w1
 have hg:=fun st=>Yd9 (a:=a.natAbs) (b:=m) (st:=st) (by omega) (by omega)
 obtain⟨e1,e2,e3⟩:=Ykt (a:=a) hm
 have yG:0<(Rat.divInt a m).den:=Rat.den_pos _
 have kY:a_ (Rat.divInt a m)=if (Rat.divInt a m).den=1 then aN (Rat.divInt a m).num else aN (Rat.divInt a m).num++47::aq (Rat.divInt a m).den:=rfl
 rw[kY]
 clear kY
 have lD:0<Nat.gcd a.natAbs m:=Ot _ hm
 generalize (Rat.divInt a m).num=P at*
 generalize (Rat.divInt a m).den=D at*
 generalize Nat.gcd a.natAbs m=g at*
 have hDm:D<=m:=by rw[e3];exact uH _ _
 have e4:(m:Int).tdiv (g:Int)=(D:Int):=by rw[AK (by omega),e3];rfl
 have g0:¬(g:Int)=0:=by omega
 have g1:¬g=0:=by omega
 have v1:bu .i64 P=P:=cF (by omega) (by omega)
 have v2:bu .i64 (-P)= -P:=cF (by omega) (by omega)
 have v3:bu .i64 (D:Int)=(D:Int):=cF (by omega) (by omega)
 have d1:∀st,A.C.call (.func 228 [] []) [.int .i64 (P.natAbs:Nat),.int .i64 1] st=some (.str (aq P.natAbs),st):=fun st=>(Js (n:=P.natAbs) (m:=1) (st:=st) (by omega) (by omega)).trans (by rw[Lg])
 have d2:∀st,A.C.call (.func 228 [] []) [.int .i64 D,.int .i64 1] st=some (.str (aq D),st):=fun st=>(Js (n:=D) (m:=1) (st:=st) (by omega) (by omega)).trans (by rw[Lg])
 have x1:(aq P.natAbs).length<30:=by
  have:(di P.natAbs).length<=19:=pd.1 (by omega)
  unfold aq;split<;>simp;omega
 have x2:(aq D).length<30:=by
  have:(di D).length<=19:=pd.1 (by omega)
  unfold aq;split<;>simp;omega
 have dh:IntKind.max .i64=9223372036854775807:=rfl
 have y1:¬(9223372036854775807:Int)<((aq P.natAbs).length:Int):=by omega
 have y2:¬(9223372036854775807:Int)<1+((aq P.natAbs).length:Int):=by omega
 have z1:D=1\/(¬D=1/\1<D):=by omega
 rcases z1 with rfl|⟨z1,z2⟩<;>by_cases hP:P<0
 ·simp[A.b178,c1,c2,c3,c4,c5,c6,hq,w1,qy,EI,hg,<-e1,e4,g1,v1,v2,hP,d1,gO,dh,y2,aN,cA.cB]
 ·simp[A.b178,c1,c2,c3,c4,c5,c6,hq,w1,qy,EI,hg,<-e1,e4,g1,v1,v2,hP,d1,gO,dh,y1,aN,cA.cB]
 ·have z3:(1:Int)<(D:Int):=by omega
  have y3:¬(9223372036854775807:Int)<((aq P.natAbs).length:Int)+1+1:=by omega
  have y4:¬(9223372036854775807:Int)<((aq P.natAbs).length:Int)+1+1+((aq D).length:Int):=by omega
  simp[A.b178,c1,c2,c3,c4,c5,c6,hq,w1,qy,EI,hg,<-e1,e4,g1,v1,v2,v3,hP,d1,d2,gO,dh,y2,aN,cA.cB,z1,z3,y3,y4]
 ·have z3:(1:Int)<(D:Int):=by omega
  have y3:¬(9223372036854775807:Int)<((aq P.natAbs).length:Int)+1:=by omega
  have y4:¬(9223372036854775807:Int)<((aq P.natAbs).length:Int)+1+((aq D).length:Int):=by omega
  simp[A.b178,c1,c2,c3,c4,c5,c6,hq,w1,qy,EI,hg,<-e1,e4,g1,v1,v2,v3,hP,d1,d2,gO,dh,y1,aN,cA.cB,z1,z3,y3,y4]
def Yql{p q:Int}{st:St}(hq:q≠0)(h1: -4000000000000000000<=p)(h2:p<=4000000000000000000)(h3: -4000000000000000000<=q)(h4:q<=4000000000000000000):A.C.call (.func 178 [] []) [.int .i64 p,.int .i64 q] st=some (.str (a_ (Rat.divInt p q)),st):=by
 rcases Int.lt_or_gt_of_ne hq with hq|hq
 ·exact Yqk hq h1 h2 h3
 ·obtain⟨m,rfl⟩:∃m:Nat,q=(m:Int):=⟨q.toNat,by omega⟩
  exact Yqj (by omega) h1 h2 (by omega)
end Go.Mx
