/-strings-/
import Derived.Test.YteojhfjdbpdolaaGreatDoorNcA
set_option linter.all false
namespace Go.Mx
open Go Go.Proofs
set_option maxRecDepth 1000000
def Zn:List UInt8:=List.replicate 128 32
def Zo:List UInt8:=List.replicate 128 45
def Yl7:List UInt8:=List.replicate 128 61
def Ysm:List UInt8:=List.replicate 64 9
def HW:List UInt8:=List.replicate 64 48
def A.Dl:bU:=.seq (sr [c1 111 251 9,mv 112 7,bi 113 .lss 111 112]
 (cd 113
 (.skip)
 (.exit 3)))
 (.block 4 (sr [mv 114 7,c1 115 251 9,bi 116 .sub 114 115,c1 117 251 9,mv 118 8,ge 119 (.mn [tq 116,tq 117,tq 118]),mv 10 119]
 (.dN [c1 120 212 9,mv 121 10,ge 122 (.cj (tq 120) none (some (tq 121))),c2 123 211 9 122])))
def A.b210:bU:=sr [ge 4 (.kh (.const (.str [])))]
 (.seq (sr [mv 11 1]
 (.block 0 (sr [ei 13 11 0,mv 12 13]
 (cd 12
 (sr [ge 4 (.kh (.const (.str [])))]
 (.ret))
 (sr [ei 15 11 1,mv 14 15]
 (cd 14
 (sr [mv 16 0,mv 4 16]
 (.ret))
 (.skip)))))))
 (.seq (sr [mv 17 1,bc 18 .lss 17 0]
 (cd 18
 (.dN [ge 19 (.g_ 9 (.const (.str [115,116,114,105,110,103,115,58,32,110,101,103,97,116,105,118,101,32,82,101,112,101,97,116,32,99,111,117,110,116]))),gn (.stop)])
 (.skip)))
 (sr [mv 21 0,ge 22 (.len 0 (tq 21)),ge 23 (.cW .u64 (tq 22)),mv 24 1,ge 25 (.cW .u64 (tq 24)),c2 26 249 23 25,mv 20 26,xt 27 20 0,xt 28 20 1,mv 5 27,mv 6 28]
 (.seq (sr [mv 29 5,ge 30 (.bin .gtr (.node []) false (tq 29) (.const (.int .u64 0))),mv 31 30,mh 32 6 31,gz 33 31 (.bin .gtr (.node []) false (tq 32) (.const (.int .u64 9223372036854775807))),pt 34 31 33]
 (cd 34
 (.dN [ge 35 (.g_ 9 (.const (.str [115,116,114,105,110,103,115,58,32,82,101,112,101,97,116,32,111,117,116,112,117,116,32,108,101,110,103,116,104,32,111,118,101,114,102,108,111,119]))),gn (.stop)])
 (.skip)))
 (sr [mv 36 6,ge 37 (.cW .i64 (tq 36)),mv 7 37]
 (.seq (sr [mv 38 0,ge 39 (.len 0 (tq 38)),ei 40 39 0]
 (cd 40
 (sr [ge 4 (.kh (.const (.str [])))]
 (.ret))
 (.skip)))
 (.seq (sr [mv 41 0,ge 42 (.bI (tq 41) (kq 0))]
 (.block 1 (.seq (sr [ge 44 (.bin .eql (.bX .int) true (tq 42) (.const (.int .u8 32))),mv 43 44]
 (cd 43
 (.skip)
 (sr [ge 45 (.bin .eql (.bX .int) true (tq 42) (.const (.int .u8 45))),mv 43 45]
 (cd 43
 (.skip)
 (sr [ge 46 (.bin .eql (.bX .int) true (tq 42) (.const (.int .u8 48))),mv 43 46]
 (cd 43
 (.skip)
 (sr [ge 47 (.bin .eql (.bX .int) true (tq 42) (.const (.int .u8 61))),mv 43 47]
 (cd 43
 (.skip)
 (.dN [ge 48 (.bin .eql (.bX .int) true (tq 42) (.const (.int .u8 9))),mv 43 48])))))))))
 (cd 43
 (.block 2 (sr [mv 50 7,bc 51 .leq 50 128,mv 52 51,mg 53 0 52,gy 54 52 (.call (fq 202) [(.const (.str Zn)),tq 53]),pf 55 52 54,mv 49 55]
 (cd 49
 (sr [mv 56 7,ge 57 (.cj (.const (.str Zn)) none (some (tq 56))),mv 4 57]
 (.ret))
 (sr [mv 59 7,bc 60 .leq 59 128,mv 61 60,mg 62 0 61,gy 63 61 (.call (fq 202) [(.const (.str Zo)),tq 62]),pf 64 61 63,mv 58 64]
 (cd 58
 (sr [mv 65 7,ge 66 (.cj (.const (.str Zo)) none (some (tq 65))),mv 4 66]
 (.ret))
 (sr [mv 68 7,bc 69 .leq 68 64,mv 70 69,mg 71 0 70,gy 72 70 (.call (fq 202) [(.const (.str HW)),tq 71]),pf 73 70 72,mv 67 73]
 (cd 67
 (sr [mv 74 7,ge 75 (.cj (.const (.str HW)) none (some (tq 74))),mv 4 75]
 (.ret))
 (sr [mv 77 7,bc 78 .leq 77 128,mv 79 78,mg 80 0 79,gy 81 79 (.call (fq 202) [(.const (.str Yl7)),tq 80]),pf 82 79 81,mv 76 82]
 (cd 76
 (sr [mv 83 7,ge 84 (.cj (.const (.str Yl7)) none (some (tq 83))),mv 4 84]
 (.ret))
 (sr [mv 86 7,bc 87 .leq 86 64,mv 88 87,mg 89 0 88,gy 90 88 (.call (fq 202) [(.const (.str Ysm)),tq 89]),pf 91 88 90,mv 85 91]
 (cd 85
 (sr [mv 92 7,ge 93 (.cj (.const (.str Ysm)) none (some (tq 92))),mv 4 93]
 (.ret))
 (.skip))))))))))))
 (.skip)))))
 (sr [mv 94 7,mv 8 94]
 (.seq (sr [mv 95 7,bc 96 .gtr 95 8192]
 (cd 96
 (sr [mv 97 0,ge 98 (.len 0 (tq 97)),ge 99 (.bin .quo (.node []) false (kq 8192) (tq 98)),mv 100 0,ge 101 (.len 0 (tq 100)),bi 102 .mul 99 101,mv 8 102]
 (sr [mv 103 8,ei 104 103 0]
 (cd 104
 (.dN [mv 105 0,ge 106 (.len 0 (tq 105)),mv 8 106])
 (.skip))))
 (.skip)))
 (sr [ge 9 (.alloc [.bF,.aa] 214)]
 (sr [mv 107 7,c2 108 250 9 107]
 (sr [mv 109 0,c2 110 211 9 109]
 (.seq (.block 3 (.loop A.Dl))
 (sr [c1 124 212 9,mv 4 124]
 (.ret)))))))))))))))
def A.k210:=@A.kk 210 125 [.tmp 4] A.b210 (by kernel_rfl) rfl
noncomputable def A.b249:=A.q Tryz.f249
def A.k249:=@A.kk 249 30 [.tmp 4,.tmp 5] A.b249 (by kernel_rfl) rfl
def Yq7{h:T O}{N:Nat}{x y:Nat}(hx:x<18446744073709551616)(hy:y<18446744073709551616):Fn A.C 249 [.int .u64 x,.int .u64 y] h N (fun v' h' N'=>h'=h/\N'=N/\v'=.aX [.int .u64 (cg (x*y):Nat),.int .u64 (bz (x*y):Nat)]):=by
 intro w
 rw[aR,A.k249 (by simp)]
 simp[A.b249]
 refine aA (MT hx hy) ?_
 rintro _ _ _ k1 ⟨rfl,rfl,rfl⟩
 simp[aE]
 exact k1
def Zp{a c:UInt8}{s:aQ}{st:St}:A.C.call (.func 202 [] []) [.str (a::s),.str [c]] st=some (.bool (decide (a=c)),st):=by
 have e:(([a]:aQ)==[c])=decide (a=c):=by
  rw[Bool.eq_iff_iff]
  simp
 have h1:(1:Int)<=(s.length:Int)+1:=by omega
 apply Call.eq
 rw[aR,A.k202 (by simp)]
 have iO:∀st,A.C.call (.func 238 [] []) [.str (a::s),.str [c]] st=some (.bool (decide (a=c)),st):=fun st=>by
  apply Call.eq
  rw[aR,A.k238 (by simp)]
  simp[A.b238,aB,dv,j_,zb,e,h1]
 simp[A.b202,iO]
def Yx5{st:St}:A.C.call (.func 202 [] []) [.str Zn,.str [48]] st=some (.bool false,st):=Zp (a:=32) (s:=List.replicate 127 32)
def Yx4{st:St}:A.C.call (.func 202 [] []) [.str Zo,.str [48]] st=some (.bool false,st):=Zp (a:=45) (s:=List.replicate 127 45)
def Yx3{st:St}:A.C.call (.func 202 [] []) [.str HW,.str [48]] st=some (.bool true,st):=Zp (a:=48) (s:=List.replicate 63 48)
def Zz5{k:Nat}(h:k<=64):List.take k HW=List.replicate k 48:=by
 unfold HW
 rw[List.take_replicate,pV h]
def Ydq:HW.length=64:=by simp[HW]
def Zta{k:Nat}(hk:k<=18){h:T O}{N:Nat}:Fn A.C 210 [.str [48],.int .i64 k] h N (fun v h' N'=>v=.str (List.replicate k 48)):=by
 intro w
 rw[aR,A.k210 (by simp)]
 by_cases c0:k=0
 ·subst c0
  simp[A.b210,aG,aE]
  exact ab.refl
 ·by_cases c1:k=1
  ·subst c1
   simp[A.b210,aG,aE]
   exact ab.refl
  ·have c3:¬(k:Int)=1:=by omega
   have e0:bj .u64 (1:Int)=((1:Nat):Int):=EO (by omega) (by omega)
   have e1:bj .u64 (k:Int)=(k:Int):=EO (by omega) (by omega)
   have c4:¬(k:Int)<0:=by omega
   simp[A.b210,aG,c0,c1,c3,c4,e0,e1]
   refine aA (Yq7 (x:=1) (y:=k) (by omega) (by omega)) ?_
   rintro _ _ _ _ ⟨rfl,rfl,rfl⟩
   have g1:cg (1*k)=0:=by unfold cg;omega
   have g2:bz (1*k)=k:=by unfold bz;omega
   have g3:¬(9223372036854775807:Int)<(k:Int):=by omega
   have g4:bj .i64 (k:Int)=(k:Int):=cD (by omega) (by omega)
   have g7:cM 48=48:=rfl
   have g5:(k:Int)<=128:=by omega
   have g6:(k:Int)<=64:=by omega
   rw[g1,g2]
   simp(disch:=omega) [aG,c0,c1,c3,c4,g3,g4,g5,g6,g7,BT,Yx5,Yx4,Yx3,zb,aB,dv,j_,Ydq,Zz5,aE]
   exact ab.refl
variable {N b:Nat} {h:T O} {s:aQ} {w:List Nat}
set_option maxHeartbeats 1000000
def A.b252:bU:=sr [mv 2 0,ge 3 (.nZ (tq 2)),fa 4 0 3,ld 5 4,ge 6 (.bin .eql (.bX .ptr) true (tq 5) (.const .bF))]
 (cd 6
 (.dN [mv 7 0,mv 8 0,ge 9 (.I9 none (tq 8)),ge 10 (.ext .same [tq 9]),ge 11 (.I9 (some (214,2)) (tq 10)),ge 12 (.nZ (tq 7)),fa 13 0 12,so 13 11])
 (sr [mv 14 0,ge 15 (.nZ (tq 14)),fa 16 0 15,ld 17 16,mv 18 0,ge 19 (.bin .neq (.bX .ptr) false (tq 17) (tq 18))]
 (cd 19
 (.stop)
 (.skip))))
def A.k252:=@A.kk 252 20 [] A.b252 (by kernel_rfl) rfl
noncomputable def A.b211:=A.q Tryz.f211
def A.k211:=@A.kk 211 19 [.tmp 4,.tmp 5] A.b211 (by kernel_rfl) rfl
noncomputable def A.b212:=A.q Tryz.f212
def A.k212:=@A.kk 212 14 [.tmp 2] A.b212 (by kernel_rfl) rfl
def Bd(h:T O)(N b:Nat)(s:aQ):Prop:=b<N/\∃p v,h.get b=some (.cells [p,v] 214 true)/\(p=.bF\/p=.ptr b 0)/\((v=.aa/\s=[])\/∃j,v=.slice j 0 s.length none 1/\b<j/\j<N/\s≠[]/\h.get j=some (.cells (s.map vB) 5 true))
def Yq3{n2:Nat}(eM:n2<=b)(hb:Bd h N b s):Call A.C (.func 252 [] []) [.ptr b 0] ⟨h,N,w⟩ (fun _ st=>st.n=N/\ax n2 st.w=ax n2 w/\(∀i,i<b->st.h.get i=h.get i)/\Bd st.h N b s):=by
 obtain⟨hN,p,v,hr,hp,hv⟩:=hb
 have rC:¬b<n2:=by omega
 rw[aR,A.k252 (by simp)]
 rcases hp with rfl|rfl
 ·simp[A.b252,hr,aG,CA,hN,rC]
  refine⟨fun i hi hc=>by omega,hN,.ptr b 0,v,?_,.inr rfl,?_⟩
  ·rw[T.ag,av rfl];rfl
  ·rcases hv with hv|⟨j,h1,h2,h3,h4,h5⟩
   ·exact .inl hv
   ·exact .inr ⟨j,h1,h2,h3,h4,by rw[T.ag,ak (by omega)];exact h5⟩
 ·simp[A.b252,hr,aG,CA]
  exact⟨hN,.ptr b 0,v,hr,.inr rfl,hv⟩
def Ycf{n0:Nat}{t:aQ}(uz:n0<=b)(hb:Bd h N b s)(ht:t≠[])(hl:s.length+t.length<1000000000000):Call A.C (.func 211 [] []) [.ptr b 0,.str t] ⟨h,N,w⟩ (fun _ st=>st.n=N+1/\ax n0 st.w=ax n0 w/\(∀i,i<b->st.h.get i=h.get i)/\Bd st.h (N+1) b (s++t)):=by
 rw[aR,A.k211 (by simp)]
 simp[A.b211]
 refine BB (Yq3 uz hb) ?_
 rintro _ ⟨H2,n2,W2⟩ ⟨hn,hW,hO,rC⟩
 simp only at hn hW hO rC
 subst hn
 obtain⟨hN,p,v,hr,hp,hv⟩:=rC
 have oZ:¬t.length=0:=by simpa using ht
 have hc:(t.map vB).length=t.length:=by simp
 have tW:ax n0 W2=[]:=hW
 have m1:2*t.length<=281474976710656:=by omega
 have m2:¬281474976710656<2*(s.length+t.length):=by omega
 have m3:¬s.length+t.length<=s.length:=by omega
 have aW:¬b=n2:=by omega
 have lG:¬b<n0:=by omega
 rcases hv with⟨rfl,rfl⟩|⟨j,rfl,h2,h3,h4,h5⟩
 ·simp[-ax,hr,Cy,fY,eL,tZ,oZ,St.alloc,m1,aW,bC,ad]
  refine⟨MQ (MR (by simp[ax,tW,lG])),fun i hi=>?_,by omega,p,.slice n2 0 t.length none 1,by rw[T.ag,av rfl],hp,.inr ⟨n2,rfl,hN,by omega,ht,by rw[T.ag,ak (by omega),T.ag,av rfl];rfl⟩⟩
  rw[ak (by omega),ak (by omega)];exact hO i hi
 ·have iA:¬b=j:=by omega
  have GO:¬j<n0:=by omega
  simp[-ax,hr,Cy,fY,eL,tZ,oZ,St.alloc,St.row,h5,m1,m2,m3,aW,iA,bC,ad]
  refine⟨MQ (MR (by simp[ax,tW,lG,GO])),fun i hi=>?_,by omega,p,.slice n2 0 (s.length+t.length) none 1,by rw[T.ag,av rfl],hp,.inr ⟨n2,by simp,hN,by omega,by simp[h4],by rw[T.ag,ak (by omega),T.ag,av rfl,List.map_append];rfl⟩⟩
  rw[ak (by omega),ak (by omega),ak (by omega)];exact hO i hi
def Yn1{α:Type}(c:List α):aF c 0 c.length=some c:=by unfold aF;simp
def Zun:∀(s:aQ),GF (s.map vB)=some s
 |[]=>rfl
 |c::s=>by
  rw[py]
  have h1:Qr (vB c)=some c:=by
   unfold Qr vB cM
   have:=c.toNat_lt
   simp
   omega
  simp only[GF,h1,Zun s]
def Yq6{n0:Nat}(uz:n0<=b)(hb:Bd h N b s)(hs:s≠[])(hl:s.length<1000000000000):Call A.C (.func 212 [] []) [.ptr b 0] ⟨h,N,w⟩ (fun v st=>v=.str s/\st.n=N/\ax n0 st.w=ax n0 w/\(∀i,i<b->st.h.get i=h.get i)):=by
 obtain⟨hN,p,v,hr,hp,hv⟩:=hb
 rw[aR,A.k212 (by simp)]
 rcases hv with⟨_,rfl⟩|⟨j,rfl,h2,h3,h4,h5⟩
 ·exact absurd rfl hs
 ·have h0:0<s.length:=List.length_pos_iff.2 hs
  have iO:(0:Int)<(s.length:Int):=by omega
  have hm:(s.length:Int)<=9223372036854775807:=by omega
  have cC:aF (s.map vB) 0 s.length=some (s.map vB):=by
   have:=Yn1 (s.map vB)
   rw[dL]at this
   exact this
  have hbm:=Zun s
  have GO:¬j<n0:=by omega
  simp[A.b212,hr,Jp,Jq,h0,iO,hm,h5,h3,hN,cC,hbm,GO]
  exact fun i hi hc=>by omega
variable {b nB:Nat} {gs:List aQ} {r:T V} {sT:St} {v:V}
set_option maxHeartbeats 4000000
def A.nj:bU:=.seq (sr [mv 59 11,bc 60 .geq 59 0]
 (cd 60
 (.skip)
 (.exit 2)))
 (.seq (.block 3 (.dN [mv 63 6,mv 64 11,ia 65 1 63 64,ld 66 65,c2 67 211 10 66]))
 (.dN [mv 61 11,bc 62 .sub 61 1,mv 11 62]))
def A.nk:bU:=.seq (sr [mv 24 4,ln 25 24,bc 26 .gtr 25 0]
 (cd 26
 (.skip)
 (.exit 0)))
 (.block 1 (sr [mv 28 4,mv 29 5,c2 30 208 28 29,mv 27 30,xt 31 27 0,xt 32 27 1,mv 7 31,mv 8 32]
 (sr [ge 9 (.kh (.const (.str [48])))]
 (.seq (sr [mv 33 8,ln 34 33,bc 35 .gtr 34 0]
 (cd 35
 (.dN [mv 36 8,ge 37 (.fg 1 (tq 36) (kq 0)),ld 38 37,ge 39 (.call (fq 209) [tq 38,.const (.int .i64 10)]),mv 9 39])
 (.skip)))
 (.seq (sr [mv 40 7,ln 41 40,bc 42 .gtr 41 0]
 (cd 42
 (.dN [mv 43 9,ge 44 (.len 0 (tq 43)),ge 45 (.bin .sub (.node []) false (kq 18) (tq 44)),ge 46 (.call (fq 210) [(.const (.str [48])),tq 45]),mv 47 9,bi 48 .add 46 47,mv 9 48])
 (.skip)))
 (sr [mv 49 6,mv 50 9,ge 51 (.eN 9 1 1 [(.str [])] [(0,1,(tq 50))]),ge 52 (.append 1 16 9 [(.str [])] (tq 49) (tq 51)),mv 6 52]
 (.dN [mv 53 7,mv 4 53])))))))
def A.rM:bU:=.seq (sr [mv 56 6,ln 57 56,bc 58 .sub 57 1,mv 11 58]
 (.block 2 (.loop A.nj)))
 (sr [c1 68 212 10,mv 2 68]
 (.ret))
def A.b151:bU:=sr [bx 1 87 0,ge 2 (.kh (.const (.str [])))]
 (.seq (sr [fa 12 1 1,ld 13 12,ge 14 (.bin .eql (.bX .slice) true (tq 13) (.const .aa))]
 (cd 14
 (sr [fa 15 0 1,ld 16 15,c1 17 207 16,mv 2 17]
 (.ret))
 (.skip)))
 (sr [lN 19 2 1,c1 20 192 19,mv 18 20,xt 21 18 0,xt 22 18 1,mv 3 21,mv 4 22]
 (sr [ge 23 (.eN 195 1 1 [.int .u64 0] [(0,1,(.const (.int .u64 1000000000000000000)))]),mv 5 23]
 (sr [mN 6]
 (.seq (.block 0 (.loop A.nk))
 (sr [ge 10 (.alloc [.bF,.aa] 214)]
 (.seq (sr [mv 54 3]
 (cd 54
 (.dN [ge 55 (.call (fq 211) [tq 10,(.const (.str [45]))])])
 (.skip)))
 A.rM)))))))
def A.k151:=@A.kk 151 69 [.tmp 2] A.b151 (by kernel_rfl) rfl
def rO(n:Nat):List aQ:=if h:n=0 then [] else (if n/1000000000000000000=0 then ar n else h_ (n%1000000000000000000) 18)::rO (n/1000000000000000000)
termination_by n
decreasing_by omega
def RS:rO 0=[]:=by unfold rO;simp
def RT{n:Nat}(h:n≠0):rO n=(if n/1000000000000000000=0 then ar n else h_ (n%1000000000000000000) 18)::rO (n/1000000000000000000):=by
 conv=>lhs;unfold rO
 rw[dif_neg h]
def Yqb:∀{n:Nat},n≠0->(rO n).reverse.flatten=ar n:=by
 intro n
 induction n using Nat.strongRecOn with
 |_ n ih=>
  intro h
  rw[RT h]
  by_cases h0:n/1000000000000000000=0
  ·rw[av h0,h0,RS];simp
  ·rw[ak h0,List.reverse_cons,List.flatten_append,ih _ (by omega) h0,HV h,HV h0]
   have e:=Zq5 (k:=18) (a:=n/1000000000000000000) (b:=n%1000000000000000000) h0 (kO _ (by decide))
   rw[show n/1000000000000000000*10^18+n%1000000000000000000=n by have:=uo n 1000000000000000000;omega]at e
   rw[e];simp
def Zuj{a:Nat}(h:a<=b):(df a).length<=(df b).length:=pC.1 (qP h (pC.2 (aM _)))
def Yfw:∀{n:Nat},(rO n).length<=(df n).length:=by
 intro n
 induction n using Nat.strongRecOn with
 |_ n ih=>
  by_cases h:n=0
  ·subst h;rw[RS];simp
  ·rw[RT h,bo,xC h,iI]
   have h1:=ih (n/1000000000000000000) (by omega)
   have h2:=Zuj (a:=n/1000000000000000000) (b:=n/10) (by omega)
   simp;omega
def Yms:∀{n:Nat} {s:aQ},s∈rO n->s≠[]:=by
 intro n
 induction n using Nat.strongRecOn with
 |_ n ih=>
  intro s hs
  by_cases h:n=0
  ·subst h;rw[RS]at hs;cases hs
  ·rw[RT h]at hs
   rcases kW.1 hs with hs|hs
   ·subst hs
    split
    ·exact JM n
    ·intro hc
     have:=Yk0 (b:=n%1000000000000000000) (k:=18) (kO _ (by decide))
     rw[hc]at this;simp at this
   ·exact ih _ (by omega) hs
def v_(l:List aQ):List (List V):=l.map fun s=>[.str s]
def Yrz{q:V}{Q n n':Nat}{h h':T O}{e:TypeId}(hq:Wn h n q Q)(hQ:Q≠0)(hv:Own 1 e nB h n v (v_ gs))(hh:∀j,j<n->h'.get j=h.get j\/(∃o m c y,v=.slice j o m c y))(hn:n<=n'):Wn h' n' q Q:=by
 obtain⟨d,hd⟩:∃d,(aJ Q)[0]?=some d:=by rw[mU hQ];exact⟨_,rfl⟩
 rcases hq with⟨hz,_⟩|⟨i,o,cp,c,ee,rw,rfl,q1,q2,q3,q4⟩
 ·rw[mU hQ]at hz;simp[dg]at hz
 ·refine .inr ⟨i,o,cp,c,ee,rw,rfl,eX q1 hn,?_,q3,q4⟩
  rcases hh i q1 with h1|⟨o',m,c',y,rfl⟩
  ·rw[h1];exact q2
  ·exfalso
   rcases hv with⟨_,⟨_,h1⟩|⟨i',h1,_,_,h2⟩⟩
   ·cases h1
   ·simp only[V.slice.injEq]at h1
    obtain⟨rfl,_⟩:=h1
    rw[q2]at h2
    simp only[al,O.cells.injEq]at h2
    have h3:=q3 0 (by rw[bA,mU hQ];simp)
    rw[fw hd,h2.1]at h3
    have:=cG h3
    obtain⟨l,hl,hx⟩:=List.mem_flatten.1 this
    obtain⟨s,_,rfl⟩:=dt.1 hl
    simp at hx
structure Nw (hB:T O) (nB M:Nat) (m:Nat) (r:T V) (st:St):Prop where
 w:ax nB st.w=[]
 ae:ab hB nB st.h st.n
 ex:∃u v gs,r.get 4=some u/\r.get 6=some v/\pD u=some (aJ m).length/\(m≠0->Wn st.h st.n u m)/\Own 1 9 nB st.h st.n v (v_ gs)/\gs++rO m=rO M
def Yid{hB:T O}{M m:Nat}{r0:T V}{t:V}(hP:kZ hB nB)(hM:(df M).length<100000000000)(hm:m<=M)(ht:Wn hB nB t 1000000000000000000)(a5:r.get 5=some t)(hf:Fx [(4,4),(6,9),(24,53)] r0 69 ⟨r,69,[]⟩)(s:Nw hB nB M m r sT):
  Code A.C none A.nk ⟨r,69,[]⟩ sT (Rd [(4,4),(6,9),(24,53)] r0 69 (fun k r st=>k<=M/\Nw hB nB M k r st) m (fun e r st=>e=.exit 0/\Nw hB nB M 0 r st)):=by
 obtain⟨H,n1,W⟩:=sT
 obtain⟨hW,hK,u,v,gs,a4,a6,lu,hu,ho,hg⟩:=s
 simp only at hW hK hu ho
 rw[bl]
 by_cases h0:m=0
 ·subst h0
  rw[rD]at lu
  simp[A.nk,hf,a4,lu]
  exact⟨hW,hK,u,v,gs,by simp[a4],by simp[a6],by rw[rD];exact lu,hu,ho,hg⟩
 ·replace hu:=hu h0
  have lp:0<(aJ m).length:=by rw[mU h0];simp
  have lp':(0:Int)<((aJ m).length:Int):=by omega
  have W7:(aJ m).length<1000000000000:=by
   have h1:=Ff (n:=m) (k:=(df M).length) (pC.2 (Zuj hm))
   unfold wl at h1
   simp at h1
   omega
  have Dm:(aJ 1000000000000000000).length<1000000000000:=by rw[Hz (by decide) (by decide)];decide
  have xL:gs.length+(rO m).length<=(df M).length:=by
   rw[<-iI,hg];exact Yfw
  have pw:=RT h0
  rw[pw,bo]at xL
  simp[A.nk,hf,a4,a5,lu,lp,lp']
  refine aA (Zue hu (ht.ae hK) (by decide) W7 Dm) ?_
  rintro _ h2 n2 k2 ⟨q,DV,rfl,hq,II⟩
  have lq:=hq.len
  have lr:=II.len
  rw[bA]at lq lr
  have qp:m%1000000000000000000<18446744073709551616:=by omega
  obtain⟨R,hR⟩:∃R,m%1000000000000000000=R:=⟨_,rfl⟩
  obtain⟨Q,hQ⟩:∃Q,m/1000000000000000000=Q:=⟨_,rfl⟩
  rw[hR]at lr II pw
  rw[hQ]at lq hq pw xL
  have kk:=hK.trans k2
  have zj:=hP.ae kk
  have app:∀(h3:T O) (n3:Nat) (W3:List Nat) (g:aQ),ab h2 n2 h3 n3->ax nB W3=[]->g=(if Q=0 then ar m else h_ R 18)->
    ∃v' h' w',fY ⟨h3.set n3 (.cells [.str g] 9 true),n3+1,W3⟩ 1 16 9 v (.slice n3 0 1 (some 1) 1)=some (v',⟨h',n3+1+1,w'⟩)/\ax nB w'=[]/\ab hB nB h' (n3+1+1)/\(Q≠0->Wn h' (n3+1+1) q Q)/\Own 1 9 nB h' (n3+1+1) v' (v_ (gs++[g]))/\(gs++[g])++rO Q=rO M:=by
   intro h3 n3 W3 g k3 HD o8
   have kk3:=kk.trans k3
   have fx:=kk3.le
   have uD:=(ho.ae (k2.trans k3)).ae (aN ab.refl (.cells [.str g] 9 true))
   obtain⟨v',h',w',e1,e2,e3,e4,e5⟩:=tU (x:=[.str g]) (u:=.slice n3 0 1 (some 1) 1) (bytes:=16) (w:=W3) uD (by omega) (by decide) rfl (by simp[eL,St.row,aF]) (by simp[v_];omega)
   refine⟨v',h',w',e1,by rw[e2];exact HD,(kk3.trans (aN ab.refl _)).then e3,fun Dp=>?_,by simpa[v_]using e5,by rw[o8,<-hg,pw,td];rfl⟩
   have YU:=(hq.ae k3).ae (aN ab.refl (.cells [.str g] 9 true))
   refine Yrz YU Dp uD (fun j hj=>?_) (uR _)
   rcases e4 j with h1|h1|h1
   ·exact .inl h1
   ·omega
   ·exact .inr h1
  have f18:((18:Int)-1)=((17:Nat):Int):=rfl
  by_cases zG:R=0
  ·have Dp:Q≠0:=by omega
   have J4:0<(aJ Q).length:=by rw[mU Dp];simp
   have yy:(0:Int)<((aJ Q).length:Int):=by omega
   have o8:[48,48,48,48,48,48,48,48,48,48,48,48,48,48,48,48,48,48]=(if Q=0 then ar m else h_ R 18):=by rw[ak Dp,zG];unfold h_;rw[tG];rfl
   rw[zG,rD]at lr
   simp[hf,a4,a5,a6,lq,lr,J4,yy]
   refine aA (Zta (k:=17) (by decide)) ?_
   rintro _ h3 n3 k3 rfl
   obtain⟨v',h',w',e1,e2,e3,e4,e5,e6⟩:=app h3 n3 W _ k3 hW o8
   simp[hf,a4,a5,a6,lq,lr,J4,yy,gL,ad,e1]
   exact⟨Q,by omega,by omega,⟨e2,e3,q,v',_,by simp,by simp,lq,e4,e5,e6⟩⟩
  ·have hRw:aJ R=[R]:=Hz (by unfold B;omega) zG
   obtain⟨i,o,c,e,wr,p1,p2,p3,p4⟩:=II.at (fw (l:=aJ R) (j:=0) (n:=R) (by rw[hRw];rfl))
   rw[hRw]at lr
   have lr:pD DV=some 1:=lr
   have Zq:=HV zG
   rw[kv]at p4
   by_cases Dp:Q=0
   ·have o8:ar R=(if Q=0 then ar m else h_ R 18):=by rw[av Dp];congr 1;omega
    have lqz:(aJ Q).length=0:=by rw[Dp,rD];rfl
    rw[lqz]at lq
    simp[hf,a4,a5,a6,lq,lr,p1,p3,p4]
    refine aA (Ymu (x:=R) (by omega) zj) ?_
    rintro _ h3 n3 k3 rfl
    obtain⟨v',h',w',e1,e2,e3,e4,e5,e6⟩:=app h3 n3 W _ k3 hW o8
    simp[hf,a4,a5,a6,lq,lr,gL,ad,e1]
    exact⟨Q,by omega,by omega,⟨e2,e3,q,v',_,by simp,by simp,by rw[lqz];exact lq,e4,e5,e6⟩⟩
   ·have J4:0<(aJ Q).length:=by rw[mU Dp];simp
    have yy:(0:Int)<((aJ Q).length:Int):=by omega
    have zaN:(df R).length<=18:=pC.1 (by omega)
    have o8:List.replicate (18-(ar R).length) 48++ar R=(if Q=0 then ar m else h_ R 18):=by rw[ak Dp,Zq];rfl
    have hs:(18:Int)-((ar R).length:Int)=((18-(ar R).length:Nat):Int):=by rw[Zq];omega
    have yf:¬(9223372036854775807:Int)<(((List.replicate (18-(ar R).length) (48:UInt8)).length+(ar R).length:Nat):Int):=by rw[List.length_replicate,Zq];omega
    simp[hf,a4,a5,a6,lq,lr,J4,yy,p1,p3,p4]
    refine aA (Ymu (x:=R) (by omega) zj) ?_
    rintro _ h3 n3 k3 rfl
    generalize ar R=S at*
    simp(disch:=omega) [hf,a4,a5,a6,lq,lr,J4,yy,hs]
    refine aA (Zta (k:=18-S.length) (by omega)) ?_
    rintro _ h4 n4 k4 rfl
    obtain⟨v',h',w',e1,e2,e3,e4,e5,e6⟩:=app h4 n4 W _ (k3.trans k4) hW o8
    generalize List.replicate (18-S.length) (48:UInt8)=Z at*
    have dq:IntKind.max .i64=9223372036854775807:=rfl
    have Zr:¬(9223372036854775807:Int)<(Z.length:Int)+(S.length:Int):=by omega
    simp[hf,a4,a5,a6,lq,lr,J4,yy,gL,dq,yf,Zr,ad,e1]
    exact⟨Q,by omega,by omega,⟨e2,e3,q,v',_,by simp,by simp,lq,e4,e5,e6⟩⟩
structure Nx (hb:T O) (n0 b:Nat) (gs:List aQ) (pre:aQ) (k:Nat) (r:T V) (st:St):Prop where
 hk:k<=gs.length
 vX:r.get 11=some (.int .i64 ((k:Int)-1))
 w:ax n0 st.w=[]
 Nt:∀i,i<b->st.h.get i=hb.get i
 bd:Bd st.h st.n b (pre++(gs.drop k).reverse.flatten)
def Ykr(gs:List aQ)(k:Nat):gs.reverse.flatten=(gs.drop k).reverse.flatten++(gs.take k).reverse.flatten:=by
 conv=>lhs;rw[<-Cl k gs]
 rw[List.reverse_append,List.flatten_append]
def Yia{j:Nat}{s:aQ}(h:gs[j]?=some s):(v_ gs).flatten[j]?=some (.str s):=by
 have:∀gs:List aQ,(v_ gs).flatten=gs.map V.str:=by
  intro gs
  induction gs with
  |nil=>rfl
  |cons a gs ih=>show V.str a::(v_ gs).flatten=_;rw[ih];rfl
 rw[this,eY,h];rfl
def Yic{hb:T O}{nB n0 b k:Nat}{gs:List aQ}{pre:aQ}{v:V}{r r0:T V}{sT:St}(uz:n0<=b)(hl:pre.length+gs.reverse.flatten.length<1000000000000)(xL:gs.length<1000000000000)(aW:∀s∈gs,s≠[])(ho:Own 1 9 nB hb b v (v_ gs))(a6:r.get 6=some v)(Cb:r.get 10=some (.ptr b 0))(hf:Fx [(11,11),(59,67)] r0 69 ⟨r,69,[]⟩)(s:Nx hb n0 b gs pre k r sT):
  Code A.C none A.nj ⟨r,69,[]⟩ sT (Rd [(11,11),(59,67)] r0 69 (Nx hb n0 b gs pre) k (fun e r st=>e=.exit 2/\Nx hb n0 b gs pre 0 r st)):=by
 obtain⟨H,n1,W⟩:=sT
 obtain⟨hk,yw,hW,hO,Fg⟩:=s
 simp only at hW hO Fg
 rw[bl]
 cases k with
 |zero=>
  have c1:¬(0:Int)<=((0:Nat):Int)-1:=by omega
  have Ny:r.get 11=some (.int .i64 (-1)):=yw
  simp[A.nj,hf,Ny]
  exact⟨hk,by simp[Ny],hW,hO,Fg⟩
 |succ j=>
  have e1:((j+1:Nat):Int)-1=(j:Int):=by omega
  rw[e1]at yw
  obtain⟨g,hg⟩:∃g,gs[j]?=some g:=⟨_,cy (by omega)⟩
  have C4:=Yia hg
  have lv:=ho.len
  have lg:(v_ gs).length=gs.length:=by simp[v_]
  rw[lg]at lv
  have Hd:(j:Int)<(gs.length:Int):=by omega
  rcases ho with⟨_,⟨h1,_⟩|⟨i,rfl,h2,h3,h4⟩⟩
  ·exfalso
   have:gs=[]:=by simpa[v_]using h1
   subst this;simp at hk
  ·have aq:=(hO i h3).trans h4
   have HX:(gs.drop j).reverse.flatten=(gs.drop (j+1)).reverse.flatten++g:=by
    have:gs.drop j=g::gs.drop (j+1):=by
     rw[F8 (by omega)]
     congr 1
     rw[cy (by omega)]at hg
     simpa using hg
    rw[this,List.reverse_cons,List.flatten_append];simp
   have Zs:=congrArg List.length (Ykr gs j)
   rw[HX,iI,iI]at Zs
   simp[A.nj,hf,a6,Cb,yw,lv,aq,C4,Hd,lg]
   refine BB (Ycf uz Fg (aW g (cG hg)) (by rw[iI];omega)) ?_
   rintro _ ⟨H2,n2,W2⟩ ⟨hn,eH,xu,rC⟩
   simp only at hn eH xu rC
   subst hn
   simp(disch:=first|(simp;done)|omega|(simp only[bA,cA,bo];omega)|rfl) [hf,yw]
   refine⟨j,by omega,by omega,by simp,by rw[eH,hW],fun i hi=>(xu i hi).trans (hO i hi),?_⟩
   rw[HX,<-td];exact rC
def Ycz{hb:T O}{n0:Nat}{pre:aQ}(uz:n0<=b)(hl:pre.length+gs.reverse.flatten.length<1000000000000)(xL:gs.length<1000000000000)(aW:∀s∈gs,s≠[])(RU:pre++gs.reverse.flatten≠[])(ho:Own 1 9 nB hb b v (v_ gs))(a6:r.get 6=some v)(Cb:r.get 10=some (.ptr b 0))
  (hW:ax n0 sT.w=[]) (hO:∀i,i<b->sT.h.get i=hb.get i) (Fg:Bd sT.h sT.n b pre):
  Code A.C none A.rM ⟨r,69,[]⟩ sT (fun e fr st=>e=.ret/\∃r',fr=⟨r',69,[]⟩/\r'.get 2=some (.str (pre++gs.reverse.flatten))/\ax n0 st.w=[]/\(∀i,i<b->st.h.get i=hb.get i)/\b<=st.n):=by
 obtain⟨H,n1,W⟩:=sT
 simp only at hW hO Fg
 rw[bl]
 have lv:=ho.len
 rw[show (v_ gs).length=gs.length by simp[v_]]at lv
 simp(disch:=omega) [A.rM,a6,lv]
 refine bL [(11,11),(59,67)] (fun e r st=>e=.exit 2/\Nx hb n0 b gs pre 0 r st) (Nx hb n0 b gs pre) gs.length ?_ ?_ ?_
 ·exact⟨aM _,by simp,hW,hO,by simpa using Fg⟩
 ·intro k r' aC hr hf J
  exact Yic uz hl xL aW ho (by rw[hr 6 (by decide)];simp[a6]) (by rw[hr 10 (by decide)];simp[Cb]) hf J
 ·rintro e r' ⟨H2,n2,W2⟩ hr ⟨rfl,hk,_,eH,xu,rC⟩
  simp only at eH xu rC
  rw[yJ]at rC
  have hb3:=rC.1
  have Zt:r'.get 10=some (.ptr b 0):=by rw[hr 10 (by decide)];simp[Cb]
  simp[Zt]
  refine BB (Yq6 uz rC RU (by rw[iI];omega)) ?_
  rintro _ ⟨H3,n3,W3⟩ ⟨rfl,hn,HD,M4⟩
  simp only at hn HD M4
  subst hn
  simp[]
  exact⟨by rw[HD,eH],fun i hi=>(M4 i hi).trans (xu i hi),by omega⟩
def RV{x:V}{z:Int}{h:T O}{N:Nat}(hx:In h N x z)(hP:kZ h N)(hl:(df z.natAbs).length<100000000000):Fn A.C 151 [x] h N (fun v h' N'=>v=.str (aP z)):=by
 intro w
 rw[aR,A.k151 (by simp)]
 rcases id hx with⟨rfl,h1,h2⟩|⟨i0,o0,l0,c0,rfl,hw0,pP⟩
 ·simp[A.b151,aO,aF,ad,aG]
  refine aA (Yp4 h1 h2 (hP.ae (aN ab.refl _))) ?_
  rintro _ h3 n3 k3 rfl
  simp[aE]
  exact(aN ab.refl _).trans k3
 ·simp[A.b151,aO,aF,ad,aG]
  refine aA (Dd (hx.ae (aN ab.refl (.cells [.int .i64 (yx z),.slice i0 o0 l0 c0 1] 87 true)))) ?_
  rintro _ h1 n1 k1 ⟨u,rfl,hu⟩
  obtain⟨M,hM⟩:∃M,z.natAbs=M:=⟨_,rfl⟩
  rw[hM]at hu hl
  have hM0:M≠0:=by omega
  have lu:=hu.len
  rw[bA]at lu
  have kN:=(aN (ab.refl (h:=h) (n:=N)) (.cells [.int .i64 (yx z),.slice i0 o0 l0 c0 1] 87 true)).trans k1
  have kT:=aN (ab.refl (h:=h1) (n:=n1)) (.cells [.int .u64 1000000000000000000] 195 true)
  have hT:Wn (h1.set n1 (.cells [.int .u64 1000000000000000000] 195 true)) (n1+1) (.slice n1 0 1 (some 1) 1) 1000000000000000000:=by
   unfold Wn
   rw[Hz (by decide) (by decide)]
   exact Sl.row (e:=195) (rw:=true) (L:=1) (by omega) (by simp[dg]) (by simp) (by simp)
  simp[aO,aF,ad]
  generalize jS:h1.set n1 (.cells [.int .u64 1000000000000000000] 195 true)=hB at*
  have hPB:=(hP.ae kN).ae kT
  refine bL [(4,4),(6,9),(24,53)] (fun e r st=>e=.exit 0/\Nw hB (n1+1) M 0 r st) (fun k r st=>k<=M/\Nw hB (n1+1) M k r st) M ?_ ?_ ?_
  ·exact⟨aM _,by simp[ax],ab.refl,u,.aa,[],by simp,by simp,lu,fun _=>hu.ae kT,Own.nil,rfl⟩
  ·rintro m r st hr hf ⟨hm,J⟩
   exact Yid hPB hl hm hT (by rw[hr 5 (by decide)];simp) hf J
  ·rintro e r ⟨H,n2,W⟩ hr ⟨rfl,hW,hK,u2,v,gs,a4,a6,_,_,ho,hg⟩
   rw[RS,wU]at hg
   subst hg
   simp only at hW hK ho
   have fx:=hK.le
   have ve:=kN.le
   have a3:r.get 3=some (.bool (decide (z<0))):=by rw[hr 3 (by decide)];simp
   have lL:=Yqb hM0
   have xL:(rO M).length<1000000000000:=qP Yfw (by omega)
   have gZ:(ar M).length<100000000000:=by rw[HV hM0];exact hl
   have zg:Bd (H.set n2 (.cells [.bF,.aa] 214 true)) (n2+1) n2 []:=⟨vn _,.bF,.aa,by rw[T.ag,av rfl],.inl rfl,.inl ⟨rfl,rfl⟩⟩
   by_cases hz:z<0
   ·have BU:aP z=[45]++(rO M).reverse.flatten:=by unfold aP;rw[av hz,hM,lL];rfl
    simp[a3,hz]
    refine BB (Ycf (n0:=n1+1) fx zg (t:=[45]) (by decide) (by decide)) ?_
    rintro _ ⟨H2,n3,W2⟩ ⟨hn,eH,xu,rC⟩
    simp only at hn eH xu rC
    subst hn
    simp[]
    refine jy (Ycz (nB:=n1+1) (n0:=n1+1) (b:=n2) (hb:=H) (gs:=rO M) (pre:=[45]) (v:=v) fx (by rw[lL];simp;omega) xL (fun s hs=>Yms hs) (by simp) ho (by simp[a6]) (by simp) (by rw[eH,hW]) (fun i hi=>by rw[xu i hi,T.ag,ak (by omega)]) rC) ?_
    rintro e fr ⟨H6,n6,W6⟩ ⟨rfl,r6,rfl,g2,g3,g4,g5⟩
    simp only at g3 g4 g5
    have Zu:=JU (show N<=n1+1 by omega) g3
    simp[g2,aE,Zu,BU]
    exact⟨by omega,fun i hi=>by rw[g4 i (by omega),hK.get i (by omega),<-jS,T.ag,ak (by omega),kN.get i hi]⟩
   ·have BU:aP z=[]++(rO M).reverse.flatten:=by unfold aP;rw[ak hz,hM,lL];rfl
    simp[a3,hz]
    refine jy (Ycz (nB:=n1+1) (n0:=n1+1) (b:=n2) (hb:=H) (gs:=rO M) (pre:=[]) (v:=v) fx (by rw[lL];simp;omega) xL (fun s hs=>Yms hs) (by rw[List.nil_append,lL];exact JM M) ho (by simp[a6]) (by simp) hW (fun i hi=>by rw[T.ag,ak (by omega)]) zg) ?_
    rintro e fr ⟨H6,n6,W6⟩ ⟨rfl,r6,rfl,g2,g3,g4,g5⟩
    simp only at g3 g4 g5
    have Zu:=JU (show N<=n1+1 by omega) g3
    simp[g2,aE,Zu,BU]
    exact⟨by omega,fun i hi=>by rw[g4 i (by omega),hK.get i (by omega),<-jS,T.ag,ak (by omega),kN.get i hi]⟩
end Go.Mx
