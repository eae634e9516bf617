/-lensletlaw06-/
import Derived.Test.YtgnadghjglamaaaGreatDoorLrK
set_option linter.all false
set_option maxHeartbeats 8000000
namespace Go.Mx
open Go Go.Proofs
variable {D:Int} {H:T O} {M n:Nat} {al dl:List aU} {g l:aU}
set_option maxRecDepth 1000000
def A.zg4:cF:=sr [mc 12 0,ge 13 (.pe (.const (.str [])))]
 (.seq (sr [mv 74 8,ei 75 74 0]
 (cd 75
 (sr [ge 14 (.pe (.const (.bool false)))]
 (sr [lN 77 4 7,mv 78 1,mv 79 2,ge 80 (.call (fq 25) [tq 77,tq 78,tq 79]),mv 76 80,xt 81 76 0,xt 82 76 1,xt 83 76 2,mv 12 81,mv 13 82,mv 14 83]
 (sr [mv 84 14,ge 85 (.un .not (tq 84)),ge 86 (.call (fq 26) [tq 85,.const (.int .i64 7)]),mv 8 86]
 (sr [mv 87 8,ei 88 87 0]
 (cd 88
 (.reg [mv 89 13,c1 90 27 89,mv 8 90])
 (.skip))))))
 (.skip)))
 (.seq (sr [mv 91 8,ni 92 91 0]
 (cd 92
 (sr [mv 93 9,ei 94 93 0,mv 95 94,mg 96 10 95,gy 97 95 (.bin .eql (.dm .str) true (tq 96) (.const (.str []))),pf 98 95 97,mv 99 98,mg 100 11 99,mg 101 8 99,gy 102 99 (.bin .eql (.dm .int) false (tq 100) (tq 101)),pf 103 99 102,mv 6 103]
 (.ret))
 (.skip)))
 (sr [mv 104 11,ei 105 104 0,mv 106 105,mg 107 9 106,mg 108 12 106,gy 109 106 (.bin .eql (.dm .int) false (tq 107) (tq 108)),pf 110 106 109,mv 111 110,mg 112 10 111,mg 113 13 111,gy 114 111 (.bin .eql (.dm .str) false (tq 112) (tq 113)),pf 115 111 114,mv 6 115]
 (.ret))))
def A.zfx:cF:=.seq (.fT [lN 65 4 3,mv 66 1,c1 67 12 66,mv 68 2,c1 69 12 68,ge 70 (.call (fq 24) [tq 65,tq 67,tq 69]),mv 64 70,xt 71 64 0,xt 72 64 1,xt 73 64 2,mv 9 71,mv 10 72,mv 11 73] [0,0,2,0,14,31,63,127,127,127,255,1535,4095])
 A.zg4
def A.zfy:cF:=sr [lN 44 4 7,c1 45 20 44,mv 46 1,c1 47 22 46,mv 48 2,c1 49 23 48,ge 50 (.kP 3 1 3 [.int .i64 0,.int .i64 0,.int .i64 0] [(0,1,(tq 45)),(1,1,(tq 47)),(2,1,(tq 49))]),c1 51 21 50,mv 8 51]
 (.seq (sr [mv 52 8,ei 53 52 0,mv 54 53,mg 55 1 54,gy 56 54 (.call (fq 9) [tq 55,.const (.int .i64 6),.const (.int .i64 9)]),gy 57 54 (.un .not (tq 56)),mg 58 57 54,mh 59 2 58,gz 60 58 (.call (fq 9) [tq 59,.const (.int .i64 8),.const (.int .i64 9)]),gz 61 58 (.un .not (tq 60)),gy 62 54 (.pick (tq 58) (.const (.bool true)) (tq 61)),pf 63 54 62]
 (cd 63
 (sr [ge 6 (.pe (.const (.bool true)))]
 (.ret))
 (.skip)))
 A.zfx)
def A.b4:cF:=sr [bx 3 24 0,ge 6 (.pe (.const (.bool false)))]
 (sr [lN 15 4 3,ge 7 (.alloc [(.str []),(.str []),(.str []),.int .i64 0] 26),gn (.store 4 (tq 7) (tq 15))]
 (.seq (sr [ge 16 (.call (fq 7) []),ge 17 (.un .not (tq 16)),mv 18 17,gz 19 18 (.load (some 4) (tq 7)),gz 20 18 (.call (fq 18) [tq 19]),gz 21 18 (.un .not (tq 20)),pt 22 18 21,mv 23 22,mh 24 1 23,gz 25 23 (.call (fq 19) [tq 24,.const (.int .i64 6),.const (.int .i64 32)]),gz 26 23 (.un .not (tq 25)),pt 27 23 26,mv 28 27,mh 29 2 28,gz 30 28 (.call (fq 19) [tq 29,.const (.int .i64 8),.const (.int .i64 64)]),gz 31 28 (.un .not (tq 30)),pt 32 28 31,mv 33 32,gz 34 33 (.load (some 4) (tq 7)),gz 35 33 (.call (fq 20) [tq 34]),gz 36 33 (.bin .eql (.dm .int) true (tq 35) (kq 0)),mh 37 36 33,gy 38 37 (.load (some 4) (tq 7)),gy 39 37 (.call (fq 8) [tq 38,.const (.int .i64 9),.const (.int .i64 6)]),gy 40 37 (.un .not (tq 39)),gz 41 33 (.pick (tq 37) (tq 40) (.const (.bool false))),pt 42 33 41]
 (cd 42
 (sr [ge 43 (.call (fq 7) []),mv 6 43]
 (.ret))
 (.skip)))
 A.zfy))
def A.c4:A.F 4=some ⟨116,[.tmp 6],A.b4⟩:=by kernel_rfl
def A.k4:=@A.kk 4 _ _ _ A.c4 rfl
def Xae(M:Nat)(e:Ex)(fr:Fr)(st:St)(H:T O)(n:Nat):Prop:=e=.ret/\∃r,fr=⟨r,116,[]⟩/\r.get 6=some (.bool true)/\aD M st.w=[]/\ae H n st.h st.n
def Xae.trans{H2:T O}{n2:Nat}{e:Ex}{fr:Fr}{st:St}(s:Xae M e fr st H2 n2)(k:ae H n H2 n2):Xae M e fr st H n:=by
 obtain⟨h1,r,h2,h3,h4,h5⟩:=s
 exact⟨h1,r,h2,h3,h4,k.trans h5⟩
def Xan{s:aU}(h:uK s 9=true):aY s=0/\Qb 30 (bJ s):=by
 simp only[uK,NP,ji,decide_eq_true_eq]at h
 obtain⟨_,h1,h2,h3⟩:=h
 rw[Sx (by decide)]at h2 h3
 have e:(10:Nat)^9<2^30:=by decide
 exact⟨h1,by omega,by omega⟩
def Xal{l:List aU}(h:pD l n 9=true):l.length<=n/\strs l=tx (zgj l)/\∀q∈zgj l,Qb 30 q:=by
 simp only[pD,ji,decide_eq_true_eq,sN]at h
 refine⟨h.1,Yy0 (Yye fun x hx=>?_),fun q hq=>?_⟩
 ·obtain⟨s,hs,rfl⟩:=AG.1 hx
  simp[(Xan (h.2 s hs)).1]
 ·obtain⟨s,hs,rfl⟩:=AG.1 hq
  exact(Xan (h.2 s hs)).2
structure BsL (g l p:aU) (al dl:List aU):Prop where
 lg:g.length<=40
 ll:l.length<=40
 lp:p.length<=40
 la:al.length<=34
 ld:dl.length<=66
 fa:∀s∈al,s.length<=40
 fd:∀s∈dl,s.length<=40
noncomputable def bsE(g l p:aU)(D:Int)(al dl:List aU):Int:=cY [ki g l p D,Yhl al,sJ dl]
def BsG(l p:aU)(D:Int)(al dl:List aU):Prop:=BsH (bJ l) (bJ p) D.toNat (zgj al) (zgj dl)/\D=(D.toNat:Int)/\l=ax (bJ l)/\p=ax (bJ p)/\strs al=tx (zgj al)/\strs dl=tx (zgj dl)
def Xam{p:aU}(c0:ki g l p D=0)(cf:pD [g,l,p] 3 9=true)(ca:pD al 6 9=true)(cd:pD dl 8 9=true):BsG l p D al dl:=by
 obtain⟨a1,a2,a3⟩:=Xal ca
 obtain⟨e1,e2,e3⟩:=Xal cd
 obtain⟨cg,cl,cp,dn,rfl,dl',_⟩:=Ypj c0
 simp only[pD,List.all_cons,List.all_nil,Bool.and_true,ji]at cf
 obtain⟨_,f1,f2,f3⟩:=cf
 exact⟨⟨(Xan f2).2,(Xan f3).2,a3,e3,by rw[Yym];exact a1,by rw[Yym];exact e1,by simpa using dl'⟩,by simp,(BN cl).1.symm,(BN cp).1.symm,a2,e2⟩
def Xad{B:Nat}{W:List Nat}{r:T V}{va vd i c e:V}{p:aU}(hG:bsE g l p D al dl=0->BsG l p D al dl)(hR:V.aS [i,c,e]=Yc9 (bsE g l p D al dl) (zgS (Zys (bJ l) (bJ p) D.toNat (zgj al) (zgj dl)) al.length))(hB:H.get B=some (.cells [.str g,.str l,.str p,.int .i64 D] 26 true))(IA:B<n)(ha:Sl H n va (strs al))(hd:Sl H n vd (strs dl))(hW:aD M W=[])(r1:r.get 1=some va)(r2:r.get 2=some vd)(r7:r.get 7=some (.ptr B 0))(r8:r.get 8=some (.int .i64 (bsE g l p D al dl)))(r9:r.get 9=some i)(oS:r.get 10=some c)(pE:r.get 11=some e):
  Code A.C none A.zg4 ⟨r,116,[]⟩ ⟨H,n,W⟩ (fun e fr st=>Xae M e fr st H n):=by
 rw[dk]
 by_cases c0:bsE g l p D al dl=0
 ·obtain⟨G1,G2,G3,G4,G5,G6⟩:=hG c0
  rw[c0]at hR r8
  have lal:(zgj al).length=al.length:=Yym
  rw[<-lal]at hR
  rw[G5]at ha
  rw[G6]at hd
  rw[G2,G3,G4]at hB
  generalize bJ l=ql at*
  generalize bJ p=qp at*
  generalize D.toNat=dn at*
  generalize zgj al=gs at*
  generalize zgj dl=ds at*
  simp(disch:=first|(simp;done)|omega|rfl) [-getElem?_pos,A.zg4,r1,r2,r7,r8,hB,IA,aL,aJ,aE]
  refine az (Yzx ha hd G1) ?_
  rintro _ h1 n1 k1 rfl
  have bb:=G1.bst (aZ _)
  cases hbo:zgS (Zys ql qp dn gs ds) gs.length with
  |none=>
   rw[hbo]at hR
   have e1:Yc9 0 none=.aS [.int .i64 0,.str [],.int .i64 7]:=by simp[Yc9]
   rw[e1]at hR
   simp only[V.aS.injEq,gC,and_true]at hR
   obtain⟨rfl,rfl,rfl⟩:=hR
   simp(disch:=first|(simp;done)|omega|rfl) [-getElem?_pos,bI,bS,bB,Ypt,aL,r9,oS,pE]
   exact⟨rfl,_,rfl,by simp,by simpa using hW,k1⟩
  |some bm=>
   obtain⟨b,m⟩:=bm
   rw[hbo]at hR
   have bq:=(bb b m hbo).2.2
   have lm:(ax m).length<1000000000:=by have:=jt bq;omega
   have lge:=fun st=>Yzm (q:=m) (st:=st) lm
   by_cases cb:BJ m=true
   ·have e1:Yc9 0 (some (b,m))=.aS [.int .i64 0,.str [],.int .i64 4]:=by simp[Yc9,cb]
    rw[e1]at hR
    simp only[V.aS.injEq,gC,and_true]at hR
    obtain⟨rfl,rfl,rfl⟩:=hR
    simp(disch:=first|(simp;done)|omega|rfl) [-getElem?_pos,bI,bS,bB,Ypt,aL,lge,cb,r9,oS,pE]
    exact⟨rfl,_,rfl,by simp,by simpa using hW,k1⟩
   ·have e1:Yc9 0 (some (b,m))=.aS [.int .i64 (b:Nat),.str (ax m),.int .i64 0]:=by simp[Yc9,cb]
    rw[e1]at hR
    simp only[V.aS.injEq,gC,and_true]at hR
    obtain⟨rfl,rfl,rfl⟩:=hR
    simp(disch:=first|(simp;done)|omega|rfl) [-getElem?_pos,bI,bS,bB,Ypt,aL,lge,cb,r9,oS,pE]
    exact⟨rfl,_,rfl,by simp,by simpa using hW,k1⟩
 ·have e1:Yc9 (bsE g l p D al dl) (zgS (Zys (bJ l) (bJ p) D.toNat (zgj al) (zgj dl)) al.length)=.aS [.int .i64 0,.str [],.int .i64 (bsE g l p D al dl)]:=by unfold Yc9;rw[aQ c0]
  rw[e1]at hR
  simp only[V.aS.injEq,gC,and_true]at hR
  obtain⟨rfl,rfl,rfl⟩:=hR
  simp(disch:=first|(simp;done)|omega|rfl) [-getElem?_pos,A.zg4,r8,r9,oS,pE,c0,aL]
  exact⟨rfl,_,rfl,by simp,by simpa using hW,ae.refl⟩
def Xas{E:Int}{o:Option (Nat×Rat)}:∃i c e,Yc9 E o=.aS [i,c,e]:=by
 unfold Yc9
 split
 ·exact⟨_,_,_,rfl⟩
 ·split
  ·exact⟨_,_,_,rfl⟩
  ·split<;>exact⟨_,_,_,rfl⟩
def Yzq{B C:Nat}{W:List Nat}{r:T V}{va vd:V}{p:aU}(L:BsL g l p al dl)(hG:bsE g l p D al dl=0->BsG l p D al dl)(hP:mC H n)(hB:H.get B=some (.cells [.str g,.str l,.str p,.int .i64 D] 26 true))(IA:B<n)(hC:H.get C=some (.cells [.str g,.str l,.str p,.int .i64 D] 24 true))(Sy:C<n)(ha:Sl H n va (strs al))(hd:Sl H n vd (strs dl))(hW:aD M W=[])(r1:r.get 1=some va)(r2:r.get 2=some vd)(r3:r.get 3=some (.ptr C 0))(r7:r.get 7=some (.ptr B 0))(r8:r.get 8=some (.int .i64 (bsE g l p D al dl))):
  Code A.C none A.zfx ⟨r,116,[]⟩ ⟨H,n,W⟩ (fun e fr st=>Xae M e fr st H n):=by
 rw[dk]
 have la:=L.la
 have ld:=L.ld
 simp(disch:=first|(simp;done)|omega|rfl) [-getElem?_pos,A.zfx,r1,r2,r3,r7,r8,hC,Sy,aJ,aE]
 refine az (Yug ha (by omega)) ?_
 rintro v1 h1 n1 k1 s1
 simp(disch:=first|(simp;done)|omega|rfl) [-getElem?_pos,r2]
 refine az (Yug (hd.ah k1) (by omega)) ?_
 rintro v2 h2 n2 k2 s2
 have K2:=k1.trans k2
 simp(disch:=first|(simp;done)|omega|rfl) [-getElem?_pos,]
 refine az (Yz0 (s1.ah k2) s2 (hP.ah K2) L.lg L.ll L.lp (by omega) (by omega) (fun s hs=>by have:=L.fa s hs;omega) (fun s hs=>by have:=L.fd s hs;omega) hG) ?_
 rintro x3 h3 n3 k3 hx3
 have K3:=K2.trans k3
 have xX:=K3.le
 obtain⟨i,c,e,hx⟩:=@Xas (bsE g l p D al dl) (zgS (Zys (bJ l) (bJ p) D.toNat (zgj al) (zgj dl)) al.length)
 have mI:x3=.aS [i,c,e]:=hx3.trans hx
 subst mI
 simp(disch:=first|(simp;done)|omega|rfl) [-getElem?_pos,]
 refine mJ (Xad (M:=M) (B:=B) hG hx.symm ((K3.get B IA).trans hB) (by omega) (ha.ah K3) (hd.ah K3) hW (by simp[r1]) (by simp[r2]) (by simp[r7]) (by simp[r8]) (by simp) (by simp) (by simp)) ?_
 intro e fr st hq
 simp(disch:=first|(simp;done)|omega|rfl) [-getElem?_pos,]
 exact hq.trans K3
def Yzr{H:T O}{M n B C:Nat}{W:List Nat}{r:T V}{va vd:V}{g l p:aU}{D:Int}{al dl:List aU}(L:BsL g l p al dl)(cf:ki g l p D=0->pD [g,l,p] 3 9=true)(hP:mC H n)(hB:H.get B=some (.cells [.str g,.str l,.str p,.int .i64 D] 26 true))(IA:B<n)(hC:H.get C=some (.cells [.str g,.str l,.str p,.int .i64 D] 24 true))(Sy:C<n)(ha:Sl H n va (strs al))(hd:Sl H n vd (strs dl))(hW:aD M W=[])(hMn:M<=n)(r1:r.get 1=some va)(r2:r.get 2=some vd)(r3:r.get 3=some (.ptr C 0))(r7:r.get 7=some (.ptr B 0)):
  Code A.C none A.zfy ⟨r,116,[]⟩ ⟨H,n,W⟩ (fun e fr st=>Xae M e fr st H n):=by
 rw[dk]
 have lg:=L.lg
 have ll:=L.ll
 have lp:=L.lp
 have la:=L.la
 have ld:=L.ld
 simp(disch:=first|(simp;done)|omega|rfl) [-getElem?_pos,A.zfy,r1,r2,r3,r7,hB,IA,aJ,aE]
 refine az (Yja (by omega) (by omega) (by omega)) ?_
 rintro _ h1 n1 k1 rfl
 simp(disch:=first|(simp;done)|omega|rfl) [-getElem?_pos,r1]
 refine az (Xag (ha.ah k1) (by omega) (fun s hs=>by have:=L.fa s hs;omega)) ?_
 rintro _ h2 n2 k2 rfl
 have K2:=k1.trans k2
 simp(disch:=first|(simp;done)|omega|rfl) [-getElem?_pos,r2]
 refine az (Xaf (hd.ah K2) (by omega) (fun s hs=>by have:=L.fd s hs;omega)) ?_
 rintro _ h3 n3 k3 rfl
 have hi:n3<n3+1:=by omega
 have K3:=(K2.trans k3).trans (aI (ae.refl (h:=h3) (n:=n3)) (.cells [.int .i64 (ki g l p D),.int .i64 (Yhl al),.int .i64 (sJ dl)] 3 true))
 have xX:=K3.le
 simp(disch:=first|(simp;done)|omega|rfl) [-getElem?_pos,ag,bU.bZ,Yzy hi]
 generalize h3.set n3 (.cells [.int .i64 (ki g l p D),.int .i64 (Yhl al),.int .i64 (sJ dl)] 3 true)=H3 at*
 by_cases c:bsE g l p D al dl=0
 ·have c':cY [ki g l p D,Yhl al,sJ dl]=0:=c
  have c0:ki g l p D=0:=by
   by_cases z:ki g l p D=0
   ·exact z
   ·rw[cY,aA z]at c';exact c'
  have fa:=Zua (d:=9) (n:=6) (ha.ah K3) (by omega) (by decide) (by decide)
  simp(disch:=first|(simp;done)|omega|rfl) [-getElem?_pos,c',aL,r1,r2]
  refine az fa ?_
  rintro _ h4 n4 k4 rfl
  have K4:=K3.trans k4
  by_cases ca:pD al 6 9=true
  ·rw[ca]
   have fd:=Zua (d:=9) (n:=8) (hd.ah K4) (by omega) (by decide) (by decide)
   simp(disch:=first|(simp;done)|omega|rfl) [-getElem?_pos,r2]
   refine az fd ?_
   rintro _ h5 n5 k5 rfl
   have K5:=K4.trans k5
   have NC:=K5.le
   by_cases cd:pD dl 8 9=true
   ·rw[cd]
    simp(disch:=first|(simp;done)|omega|rfl) [-getElem?_pos,]
    refine mJ (Yzq (M:=M) (B:=B) (C:=C) (D:=D) L (fun _=>Xam c0 (cf c0) ca cd) (hP.ah K5) ((K5.get B IA).trans hB) (by omega) ((K5.get C Sy).trans hC) (by omega) (ha.ah K5) (hd.ah K5) hW (by simp[r1]) (by simp[r2]) (by simp[r3]) (by simp[r7]) (by simp[bsE,c'])) ?_
    intro e fr st hq
    simp(disch:=first|(simp;done)|omega|rfl) [-getElem?_pos,]
    exact hq.trans K5
   ·have cd':pD dl 8 9=false:=by simpa using cd
    rw[cd']
    simp(disch:=first|(simp;done)|omega|rfl) [-getElem?_pos,]
    exact⟨rfl,_,rfl,by simp,by simpa using hW,K5⟩
  ·have ca':pD al 6 9=false:=by simpa using ca
   rw[ca']
   simp(disch:=first|(simp;done)|omega|rfl) [-getElem?_pos,]
   exact⟨rfl,_,rfl,by simp,by simpa using hW,K4⟩
 ·have c':¬cY [ki g l p D,Yhl al,sJ dl]=0:=c
  simp(disch:=first|(simp;done)|omega|rfl) [-getElem?_pos,c',aL,r1,r2]
  refine mJ (Yzq (M:=M) (B:=B) (C:=C) (D:=D) L (fun h=>absurd h c) (hP.ah K3) ((K3.get B IA).trans hB) (by omega) ((K3.get C Sy).trans hC) (by omega) (ha.ah K3) (hd.ah K3) hW (by simp[r1]) (by simp[r2]) (by simp[r3]) (by simp[r7]) (by simp[bsE])) ?_
  intro e fr st hq
  simp(disch:=first|(simp;done)|omega|rfl) [-getElem?_pos,]
  exact hq.trans K3
def Ykn{l:List aU}{n k:Nat}(h:Yao n k l=true)(hn:n<=k+2):l.length<=k+2/\∀s∈l,s.length<=40:=by
 simp only[Yao,ji,sN]at h
 refine⟨?_,fun s hs=>by simpa[Yw4]using h.2 s hs⟩
 have:=h.1
 simp[Yz5]at this
 omega
def Yz2{h:T O}{N:Nat}{g l p:aU}{D:Int}{va vb:V}{da db:List aU}(ha:Sl h N va (strs da))(hb:Sl h N vb (strs db))(hP:mC h N)(hda:da.length<9223372036854775808)(hdb:db.length<9223372036854775808)(hg:g.length<9223372036854775808)(hl:l.length<9223372036854775808)(hp:p.length<9223372036854775808):Fn A.C 4 [.agg [.str g,.str l,.str p,.int .i64 D],va,vb] h N (fun x _ _=>x=.bool true):=by
 intro w
 rw[aV,A.k4 (by simp)]
 have kB:ae h N (((h.set N (.cells [.str g,.str l,.str p,.int .i64 D] 24 true)).set (N+1) (.cells [.str [],.str [],.str [],.int .i64 0] 26 true)).set (N+1) (.cells [.str g,.str l,.str p,.int .i64 D] 26 true)) (N+2):=((ae.refl.new _).new _).set (by omega)
 have hA:=fun w=>Zhm (w:=w) (hP.ah kB)
 have b0:(((h.set N (.cells [.str g,.str l,.str p,.int .i64 D] 24 true)).set (N+1) (.cells [.str [],.str [],.str [],.int .i64 0] 26 true)).set (N+1) (.cells [.str g,.str l,.str p,.int .i64 D] 26 true)).get N=some (.cells [.str g,.str l,.str p,.int .i64 D] 24 true):=by simp
 have b1:(((h.set N (.cells [.str g,.str l,.str p,.int .i64 D] 24 true)).set (N+1) (.cells [.str [],.str [],.str [],.int .i64 0] 26 true)).set (N+1) (.cells [.str g,.str l,.str p,.int .i64 D] 26 true)).get (N+1)=some (.cells [.str g,.str l,.str p,.int .i64 D] 26 true):=by simp
 simp(disch:=first|(simp;done)|omega|rfl) [-getElem?_pos,A.b4,aJ,aE,ag,bE]
 generalize ((h.set N (.cells [.str g,.str l,.str p,.int .i64 D] 24 true)).set (N+1) (.cells [.str [],.str [],.str [],.int .i64 0] 26 true)).set (N+1) (.cells [.str g,.str l,.str p,.int .i64 D] 26 true)=hB at*
 simp(disch:=first|(simp;done)|omega|rfl) [-getElem?_pos,hA,b0,b1,aJ,aE]
 refine az (Zu3 hg hl hp) ?_
 rintro _ h1 n1 k1 rfl
 have uw:=k1.le
 have K1:=kB.trans k1
 have hA1:=fun w=>Zhm (w:=w) (hP.ah K1)
 have f0:=(k1.get N (by omega)).trans b0
 have f1:=(k1.get (N+1) (by omega)).trans b1
 have e0:N<n1:=by omega
 have e1:N+1<n1:=by omega
 have Sz:∀w,A.C.call (.func 19 [] []) [va,.int .i64 6,.int .i64 32] ⟨h1,n1,w⟩=some (.bool (Yao 6 32 da),⟨h1,n1,w⟩):=fun w=>Ym7 (n:=6) (lim:=32) (ha.ah K1) hda (by decide)
 have hS2:∀w,A.C.call (.func 19 [] []) [vb,.int .i64 8,.int .i64 64] ⟨h1,n1,w⟩=some (.bool (Yao 8 64 db),⟨h1,n1,w⟩):=fun w=>Ym7 (n:=8) (lim:=64) (hb.ah K1) hdb (by decide)
 by_cases cS:g.length<=40/\l.length<=40/\p.length<=40
 ·by_cases ca:Yao 6 32 da=true
  ·by_cases cb:Yao 8 64 db=true
   ·obtain⟨x1,x2⟩:=Ykn ca (by decide)
    obtain⟨y1,y2⟩:=Ykn cb (by decide)
    have L:BsL g l p da db:=⟨cS.1,cS.2.1,cS.2.2,x1,y1,x2,y2⟩
    simp(disch:=first|(simp;done)|omega|rfl) [-getElem?_pos,cS,ca,cb,Sz,hS2,f0,f1,e0,e1,aJ,aE]
    refine az (Yja (by omega) (by omega) (by omega)) ?_
    rintro _ h2 n2 k2 rfl
    have oP:=k2.le
    have K2:=K1.trans k2
    have f02:=(k2.get N (by omega)).trans f0
    have f12:=(k2.get (N+1) (by omega)).trans f1
    have e02:N<n2:=by omega
    have Nz:N+1<n2:=by omega
    by_cases c0:ki g l p D=0
    ·simp(disch:=first|(simp;done)|omega|rfl) [-getElem?_pos,c0,aL,f02,f12,e02,Nz,aJ,aE]
     have fl:=Zyr (h:=h2) (N:=n2) (D:=D) (dd:=9) (n:=6) cS.1 cS.2.1 cS.2.2 (by decide) (by decide)
     refine az fl ?_
     rintro _ h3 n3 k3 rfl
     have xX:=k3.le
     have K3:=K2.trans k3
     have hA3:=fun w=>Zhm (w:=w) (hP.ah K3)
     have dl:D<=6:=by
      obtain⟨_,_,_,dn,hd',dl,_⟩:=Ypj c0
      omega
     have dl':decide (D<=((6:Nat):Int))=true:=by simpa using dl
     by_cases cf:pD [g,l,p] 3 9=true
     ·rw[dl',cf,decide_eq_true c0]
      simp(disch:=first|(simp;done)|omega|rfl) [-getElem?_pos,f02,f12]
      refine mJ (Yzr (M:=N) (B:=N+1) (C:=N) (D:=D) L (fun _=>cf) (hP.ah K3) ((k3.get (N+1) (by omega)).trans f12) (by omega) ((k3.get N (by omega)).trans f02) (by omega) (ha.ah K3) (hb.ah K3) (by simp) (by omega) (by simp) (by simp) (by simp) (by simp)) ?_
      rintro _ _ ⟨H,nn,WW⟩ ⟨rfl,r6',rfl,h6,hw,hk⟩
      simp only at hw hk
      simp(disch:=first|(simp;done)|omega|rfl) [-getElem?_pos,h6,hw,aF]
      exact K3.trans hk
     ·have cf':pD [g,l,p] 3 9=false:=by simpa using cf
      rw[cf',Bool.false_and,Bool.and_false]
      simp(disch:=first|(simp;done)|omega|rfl) [-getElem?_pos,hA3,aF]
      exact K3
    ·simp(disch:=first|(simp;done)|omega|rfl) [-getElem?_pos,c0,aL]
     refine mJ (Yzr (M:=N) (B:=N+1) (C:=N) (D:=D) L (fun h=>absurd h c0) (hP.ah K2) f12 (by omega) f02 (by omega) (ha.ah K2) (hb.ah K2) (by simp) (by omega) (by simp) (by simp) (by simp) (by simp)) ?_
     rintro _ _ ⟨H,nn,WW⟩ ⟨rfl,r6',rfl,h6,hw,hk⟩
     simp only at hw hk
     simp(disch:=first|(simp;done)|omega|rfl) [-getElem?_pos,h6,hw,aF]
     exact K2.trans hk
   ·simp(disch:=first|(simp;done)|omega|rfl) [-getElem?_pos,cS,ca,cb,Sz,hS2,hA1,f0,f1,e0,e1,aJ,aE,aF]
    exact K1
  ·simp(disch:=first|(simp;done)|omega|rfl) [-getElem?_pos,cS,ca,Sz,hA1,f0,f1,e0,e1,aJ,aE,aF]
   exact K1
 ·simp(disch:=first|(simp;done)|omega|rfl) [-getElem?_pos,cS,hA1,aF]
  exact K1
end Go.Mx
