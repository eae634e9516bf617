/-strings-/
import Derived.Test.YtlfdeoomaccciaaGreatDoorNcA
set_option linter.all false
namespace Go.Mx
open Go Go.Proofs
set_option maxRecDepth 1000000
def Za:List UInt8:=List.replicate 128 32
def Zb:List UInt8:=List.replicate 128 45
def Ykl:List UInt8:=List.replicate 128 61
def Yq1:List UInt8:=List.replicate 64 9
def HZ:List UInt8:=List.replicate 64 48
def A.Dj:bO:=.seq (sr [c1 111 258 9,mv 112 7,bi 113 .lss 111 112]
 (cd 113
 (.skip)
 (.exit 3)))
 (.block 4 (sr [mv 114 7,c1 115 258 9,bi 116 .sub 114 115,c1 117 258 9,mv 118 8,ge 119 (.mn [tq 116,tq 117,tq 118]),mv 10 119]
 (.dP [c1 120 226 9,mv 121 10,ge 122 (.cg (tq 120) none (some (tq 121))),c2 123 225 9 122])))
def A.b224:bO:=sr [ge 4 (.km (.const (.str [])))]
 (.seq (sr [mv 11 1]
 (.block 0 (sr [ei 13 11 0,mv 12 13]
 (cd 12
 (sr [ge 4 (.km (.const (.str [])))]
 (.ret))
 (sr [ei 15 11 1,mv 14 15]
 (cd 14
 (sr [mv 16 0,mv 4 16]
 (.ret))
 (.skip)))))))
 (.seq (sr [mv 17 1,bc 18 .lss 17 0]
 (cd 18
 (.dP [ge 19 (.iz 9 (.const (.str [115,116,114,105,110,103,115,58,32,110,101,103,97,116,105,118,101,32,82,101,112,101,97,116,32,99,111,117,110,116]))),gn (.stop)])
 (.skip)))
 (sr [mv 21 0,ge 22 (.len 0 (tq 21)),ge 23 (.cP .u64 (tq 22)),mv 24 1,ge 25 (.cP .u64 (tq 24)),c2 26 256 23 25,mv 20 26,xt 27 20 0,xt 28 20 1,mv 5 27,mv 6 28]
 (.seq (sr [mv 29 5,ge 30 (.bin .gtr (.node []) false (tq 29) (.const (.int .u64 0))),mv 31 30,mh 32 6 31,gz 33 31 (.bin .gtr (.node []) false (tq 32) (.const (.int .u64 9223372036854775807))),pt 34 31 33]
 (cd 34
 (.dP [ge 35 (.iz 9 (.const (.str [115,116,114,105,110,103,115,58,32,82,101,112,101,97,116,32,111,117,116,112,117,116,32,108,101,110,103,116,104,32,111,118,101,114,102,108,111,119]))),gn (.stop)])
 (.skip)))
 (sr [mv 36 6,ge 37 (.cP .i64 (tq 36)),mv 7 37]
 (.seq (sr [mv 38 0,ge 39 (.len 0 (tq 38)),ei 40 39 0]
 (cd 40
 (sr [ge 4 (.km (.const (.str [])))]
 (.ret))
 (.skip)))
 (.seq (sr [mv 41 0,ge 42 (.bI (tq 41) (kq 0))]
 (.block 1 (.seq (sr [ge 44 (.bin .eql (.bX .int) true (tq 42) (.const (.int .u8 32))),mv 43 44]
 (cd 43
 (.skip)
 (sr [ge 45 (.bin .eql (.bX .int) true (tq 42) (.const (.int .u8 45))),mv 43 45]
 (cd 43
 (.skip)
 (sr [ge 46 (.bin .eql (.bX .int) true (tq 42) (.const (.int .u8 48))),mv 43 46]
 (cd 43
 (.skip)
 (sr [ge 47 (.bin .eql (.bX .int) true (tq 42) (.const (.int .u8 61))),mv 43 47]
 (cd 43
 (.skip)
 (.dP [ge 48 (.bin .eql (.bX .int) true (tq 42) (.const (.int .u8 9))),mv 43 48])))))))))
 (cd 43
 (.block 2 (sr [mv 50 7,bc 51 .leq 50 128,mv 52 51,mg 53 0 52,gy 54 52 (.call (fq 192) [(.const (.str Za)),tq 53]),pf 55 52 54,mv 49 55]
 (cd 49
 (sr [mv 56 7,ge 57 (.cg (.const (.str Za)) none (some (tq 56))),mv 4 57]
 (.ret))
 (sr [mv 59 7,bc 60 .leq 59 128,mv 61 60,mg 62 0 61,gy 63 61 (.call (fq 192) [(.const (.str Zb)),tq 62]),pf 64 61 63,mv 58 64]
 (cd 58
 (sr [mv 65 7,ge 66 (.cg (.const (.str Zb)) none (some (tq 65))),mv 4 66]
 (.ret))
 (sr [mv 68 7,bc 69 .leq 68 64,mv 70 69,mg 71 0 70,gy 72 70 (.call (fq 192) [(.const (.str HZ)),tq 71]),pf 73 70 72,mv 67 73]
 (cd 67
 (sr [mv 74 7,ge 75 (.cg (.const (.str HZ)) none (some (tq 74))),mv 4 75]
 (.ret))
 (sr [mv 77 7,bc 78 .leq 77 128,mv 79 78,mg 80 0 79,gy 81 79 (.call (fq 192) [(.const (.str Ykl)),tq 80]),pf 82 79 81,mv 76 82]
 (cd 76
 (sr [mv 83 7,ge 84 (.cg (.const (.str Ykl)) none (some (tq 83))),mv 4 84]
 (.ret))
 (sr [mv 86 7,bc 87 .leq 86 64,mv 88 87,mg 89 0 88,gy 90 88 (.call (fq 192) [(.const (.str Yq1)),tq 89]),pf 91 88 90,mv 85 91]
 (cd 85
 (sr [mv 92 7,ge 93 (.cg (.const (.str Yq1)) none (some (tq 92))),mv 4 93]
 (.ret))
 (.skip))))))))))))
 (.skip)))))
 (sr [mv 94 7,mv 8 94]
 (.seq (sr [mv 95 7,bc 96 .gtr 95 8192]
 (cd 96
 (sr [mv 97 0,ge 98 (.len 0 (tq 97)),ge 99 (.bin .quo (.node []) false (kq 8192) (tq 98)),mv 100 0,ge 101 (.len 0 (tq 100)),bi 102 .mul 99 101,mv 8 102]
 (sr [mv 103 8,ei 104 103 0]
 (cd 104
 (.dP [mv 105 0,ge 106 (.len 0 (tq 105)),mv 8 106])
 (.skip))))
 (.skip)))
 (sr [ge 9 (.alloc [.bF,.aa] 226)]
 (sr [mv 107 7,c2 108 257 9 107]
 (sr [mv 109 0,c2 110 225 9 109]
 (.seq (.block 3 (.loop A.Dj))
 (sr [c1 124 226 9,mv 4 124]
 (.ret)))))))))))))))
def A.k224:=@A.kk 224 125 [.tmp 4] A.b224 (by kernel_rfl) rfl
noncomputable def A.b256:=A.q Tryz.f256
def A.k256:=@A.kk 256 30 [.tmp 4,.tmp 5] A.b256 (by kernel_rfl) rfl
def Ypr{h:T O}{N:Nat}{x y:Nat}(hx:x<18446744073709551616)(hy:y<18446744073709551616):Fn A.C 256 [.int .u64 x,.int .u64 y] h N (fun v' h' N'=>h'=h/\N'=N/\v'=.aV [.int .u64 (cf (x*y):Nat),.int .u64 (bu (x*y):Nat)]):=by
 intro w
 rw[aN,A.k256 (by simp)]
 simp[A.b256]
 refine aB (MU hx hy) ?_
 rintro _ _ _ k1 ⟨rfl,rfl,rfl⟩
 simp[aA]
 exact k1
def Zc{a c:UInt8}{s:aM}{st:St}:A.C.call (.func 192 [] []) [.str (a::s),.str [c]] st=some (.bool (decide (a=c)),st):=by
 have e:(([a]:aM)==[c])=decide (a=c):=by
  rw[Bool.eq_iff_iff]
  simp
 have h1:(1:Int)<=(s.length:Int)+1:=by omega
 apply Call.eq
 rw[aN,A.k192 (by simp)]
 have jU:∀st,A.C.call (.func 238 [] []) [.str (a::s),.str [c]] st=some (.bool (decide (a=c)),st):=fun st=>by
  apply Call.eq
  rw[aN,A.k238 (by simp)]
  simp[A.b238,aC,dv,k_,za,e,h1]
 simp[A.b192,jU]
def Ywf{st:St}:A.C.call (.func 192 [] []) [.str Za,.str [48]] st=some (.bool false,st):=Zc (a:=32) (s:=List.replicate 127 32)
def Ywe{st:St}:A.C.call (.func 192 [] []) [.str Zb,.str [48]] st=some (.bool false,st):=Zc (a:=45) (s:=List.replicate 127 45)
def Ywd{st:St}:A.C.call (.func 192 [] []) [.str HZ,.str [48]] st=some (.bool true,st):=Zc (a:=48) (s:=List.replicate 63 48)
def Zyz{k:Nat}(h:k<=64):List.take k HZ=List.replicate k 48:=by
 unfold HZ
 rw[List.take_replicate,pZ h]
def Ych:HZ.length=64:=by simp[HZ]
def Zsn{k:Nat}(hk:k<=18){h:T O}{N:Nat}:Fn A.C 224 [.str [48],.int .i64 k] h N (fun v h' N'=>v=.str (List.replicate k 48)):=by
 intro w
 rw[aN,A.k224 (by simp)]
 by_cases c0:k=0
 ·subst c0
  simp[A.b224,aE,aA]
  exact ab.refl
 ·by_cases c1:k=1
  ·subst c1
   simp[A.b224,aE,aA]
   exact ab.refl
  ·have c3:¬(k:Int)=1:=by omega
   have e0:bl .u64 (1:Int)=((1:Nat):Int):=EP (by omega) (by omega)
   have e1:bl .u64 (k:Int)=(k:Int):=EP (by omega) (by omega)
   have c4:¬(k:Int)<0:=by omega
   simp[A.b224,aE,c0,c1,c3,c4,e0,e1]
   refine aB (Ypr (x:=1) (y:=k) (by omega) (by omega)) ?_
   rintro _ _ _ _ ⟨rfl,rfl,rfl⟩
   have g1:cf (1*k)=0:=by unfold cf;omega
   have g2:bu (1*k)=k:=by unfold bu;omega
   have g3:¬(9223372036854775807:Int)<(k:Int):=by omega
   have g4:bl .i64 (k:Int)=(k:Int):=cA (by omega) (by omega)
   have g7:cI 48=48:=rfl
   have g5:(k:Int)<=128:=by omega
   have g6:(k:Int)<=64:=by omega
   rw[g1,g2]
   simp(disch:=omega) [aE,c0,c1,c3,c4,g3,g4,g5,g6,g7,BT,Ywf,Ywe,Ywd,za,aC,dv,k_,Ych,Zyz,aA]
   exact ab.refl
variable {N b:Nat} {h:T O} {s:aM} {w:List Nat}
set_option maxHeartbeats 1000000
def A.b259:bO:=sr [mv 2 0,ge 3 (.oh (tq 2)),fa 4 0 3,ld 5 4,ge 6 (.bin .eql (.bX .ptr) true (tq 5) (.const .bF))]
 (cd 6
 (.dP [mv 7 0,mv 8 0,ge 9 (.Ja none (tq 8)),ge 10 (.ext .same [tq 9]),ge 11 (.Ja (some (226,2)) (tq 10)),ge 12 (.oh (tq 7)),fa 13 0 12,so 13 11])
 (sr [mv 14 0,ge 15 (.oh (tq 14)),fa 16 0 15,ld 17 16,mv 18 0,ge 19 (.bin .neq (.bX .ptr) false (tq 17) (tq 18))]
 (cd 19
 (.stop)
 (.skip))))
def A.k259:=@A.kk 259 20 [] A.b259 (by kernel_rfl) rfl
noncomputable def A.b225:=A.q Tryz.f225
def A.k225:=@A.kk 225 19 [.tmp 4,.tmp 5] A.b225 (by kernel_rfl) rfl
noncomputable def A.b226:=A.q Tryz.f226
def A.k226:=@A.kk 226 14 [.tmp 2] A.b226 (by kernel_rfl) rfl
def Bd(h:T O)(N b:Nat)(s:aM):Prop:=b<N/\∃p v,h.get b=some (.cells [p,v] 226 true)/\(p=.bF\/p=.ptr b 0)/\((v=.aa/\s=[])\/∃j,v=.slice j 0 s.length none 1/\b<j/\j<N/\s≠[]/\h.get j=some (.cells (s.map vB) 5 true))
def Ypn{n2:Nat}(ff:n2<=b)(hb:Bd h N b s):Call A.C (.func 259 [] []) [.ptr b 0] ⟨h,N,w⟩ (fun _ st=>st.n=N/\av n2 st.w=av n2 w/\(∀i,i<b->st.h.get i=h.get i)/\Bd st.h N b s):=by
 obtain⟨hN,p,v,hr,hp,hv⟩:=hb
 have rz:¬b<n2:=by omega
 rw[aN,A.k259 (by simp)]
 rcases hp with rfl|rfl
 ·simp[A.b259,hr,aE,CA,hN,rz]
  refine⟨fun i hi hc=>by omega,hN,.ptr b 0,v,?_,.inr rfl,?_⟩
  ·rw[T.ag,ay rfl];rfl
  ·rcases hv with hv|⟨j,h1,h2,h3,h4,h5⟩
   ·exact .inl hv
   ·exact .inr ⟨j,h1,h2,h3,h4,by rw[T.ag,ak (by omega)];exact h5⟩
 ·simp[A.b259,hr,aE,CA]
  exact⟨hN,.ptr b 0,v,hr,.inr rfl,hv⟩
def Ybd{n0:Nat}{t:aM}(pS:n0<=b)(hb:Bd h N b s)(ht:t≠[])(hl:s.length+t.length<1000000000000):Call A.C (.func 225 [] []) [.ptr b 0,.str t] ⟨h,N,w⟩ (fun _ st=>st.n=N+1/\av n0 st.w=av n0 w/\(∀i,i<b->st.h.get i=h.get i)/\Bd st.h (N+1) b (s++t)):=by
 rw[aN,A.k225 (by simp)]
 simp[A.b225]
 refine Ag (Ypn pS hb) ?_
 rintro _ ⟨H2,n2,W2⟩ ⟨hn,hW,hO,rz⟩
 simp only at hn hW hO rz
 subst hn
 obtain⟨hN,p,v,hr,hp,hv⟩:=rz
 have pq:¬t.length=0:=by simpa using ht
 have hc:(t.map vB).length=t.length:=by simp
 have yQ:av n0 W2=[]:=hW
 have m1:2*t.length<=281474976710656:=by omega
 have m2:¬281474976710656<2*(s.length+t.length):=by omega
 have m3:¬s.length+t.length<=s.length:=by omega
 have aW:¬b=n2:=by omega
 have lS:¬b<n0:=by omega
 rcases hv with⟨rfl,rfl⟩|⟨j,rfl,h2,h3,h4,h5⟩
 ·simp[-av,hr,Cy,gJ,eA,uk,pq,St.alloc,m1,aW,bD,ad]
  refine⟨MR (MS (by simp[av,yQ,lS])),fun i hi=>?_,by omega,p,.slice n2 0 t.length none 1,by rw[T.ag,ay rfl],hp,.inr ⟨n2,rfl,hN,by omega,ht,by rw[T.ag,ak (by omega),T.ag,ay rfl];rfl⟩⟩
  rw[ak (by omega),ak (by omega)];exact hO i hi
 ·have iS:¬b=j:=by omega
  have GS:¬j<n0:=by omega
  simp[-av,hr,Cy,gJ,eA,uk,pq,St.alloc,St.row,h5,m1,m2,m3,aW,iS,bD,ad]
  refine⟨MR (MS (by simp[av,yQ,lS,GS])),fun i hi=>?_,by omega,p,.slice n2 0 (s.length+t.length) none 1,by rw[T.ag,ay rfl],hp,.inr ⟨n2,by simp,hN,by omega,by simp[h4],by rw[T.ag,ak (by omega),T.ag,ay rfl,List.map_append];rfl⟩⟩
  rw[ak (by omega),ak (by omega),ak (by omega)];exact hO i hi
def Ymf{α:Type}(c:List α):aD c 0 c.length=some c:=by unfold aD;simp
def Zt0:∀(s:aM),GK (s.map vB)=some s
 |[]=>rfl
 |c::s=>by
  rw[nZ]
  have h1:Qe (vB c)=some c:=by
   unfold Qe vB cI
   have:=c.toNat_lt
   simp
   omega
  simp only[GK,h1,Zt0 s]
def Ypq{n0:Nat}(pS:n0<=b)(hb:Bd h N b s)(hs:s≠[])(hl:s.length<1000000000000):Call A.C (.func 226 [] []) [.ptr b 0] ⟨h,N,w⟩ (fun v st=>v=.str s/\st.n=N/\av n0 st.w=av n0 w/\(∀i,i<b->st.h.get i=h.get i)):=by
 obtain⟨hN,p,v,hr,hp,hv⟩:=hb
 rw[aN,A.k226 (by simp)]
 rcases hv with⟨_,rfl⟩|⟨j,rfl,h2,h3,h4,h5⟩
 ·exact absurd rfl hs
 ·have h0:0<s.length:=List.length_pos_iff.2 hs
  have jU:(0:Int)<(s.length:Int):=by omega
  have hm:(s.length:Int)<=9223372036854775807:=by omega
  have cy:aD (s.map vB) 0 s.length=some (s.map vB):=by
   have:=Ymf (s.map vB)
   rw[je]at this
   exact this
  have hbm:=Zt0 s
  have GS:¬j<n0:=by omega
  simp[A.b226,hr,Jr,Js,h0,jU,hm,h5,h3,hN,cy,hbm,GS]
  exact fun i hi hc=>by omega
variable {b nB:Nat} {gs:List aM} {r:T V} {sT:St} {v:V}
set_option maxHeartbeats 4000000
def A.nv:bO:=.seq (sr [mv 59 11,bc 60 .geq 59 0]
 (cd 60
 (.skip)
 (.exit 2)))
 (.seq (.block 3 (.dP [mv 63 6,mv 64 11,ia 65 1 63 64,ld 66 65,c2 67 225 10 66]))
 (.dP [mv 61 11,bc 62 .sub 61 1,mv 11 62]))
def A.nw:bO:=.seq (sr [mv 24 4,ln 25 24,bc 26 .gtr 25 0]
 (cd 26
 (.skip)
 (.exit 0)))
 (.block 1 (sr [mv 28 4,mv 29 5,c2 30 222 28 29,mv 27 30,xt 31 27 0,xt 32 27 1,mv 7 31,mv 8 32]
 (sr [ge 9 (.km (.const (.str [48])))]
 (.seq (sr [mv 33 8,ln 34 33,bc 35 .gtr 34 0]
 (cd 35
 (.dP [mv 36 8,ge 37 (.e_ 1 (tq 36) (kq 0)),ld 38 37,ge 39 (.call (fq 223) [tq 38,.const (.int .i64 10)]),mv 9 39])
 (.skip)))
 (.seq (sr [mv 40 7,ln 41 40,bc 42 .gtr 41 0]
 (cd 42
 (.dP [mv 43 9,ge 44 (.len 0 (tq 43)),ge 45 (.bin .sub (.node []) false (kq 18) (tq 44)),ge 46 (.call (fq 224) [(.const (.str [48])),tq 45]),mv 47 9,bi 48 .add 46 47,mv 9 48])
 (.skip)))
 (sr [mv 49 6,mv 50 9,ge 51 (.fG 9 1 1 [(.str [])] [(0,1,(tq 50))]),ge 52 (.append 1 16 9 [(.str [])] (tq 49) (tq 51)),mv 6 52]
 (.dP [mv 53 7,mv 4 53])))))))
def A.rL:bO:=.seq (sr [mv 56 6,ln 57 56,bc 58 .sub 57 1,mv 11 58]
 (.block 2 (.loop A.nv)))
 (sr [c1 68 226 10,mv 2 68]
 (.ret))
def A.b155:bO:=sr [bx 1 78 0,ge 2 (.km (.const (.str [])))]
 (.seq (sr [fa 12 1 1,ld 13 12,ge 14 (.bin .eql (.bX .slice) true (tq 13) (.const .aa))]
 (cd 14
 (sr [fa 15 0 1,ld 16 15,c1 17 221 16,mv 2 17]
 (.ret))
 (.skip)))
 (sr [lN 19 2 1,c1 20 181 19,mv 18 20,xt 21 18 0,xt 22 18 1,mv 3 21,mv 4 22]
 (sr [ge 23 (.fG 191 1 1 [.int .u64 0] [(0,1,(.const (.int .u64 1000000000000000000)))]),mv 5 23]
 (sr [mN 6]
 (.seq (.block 0 (.loop A.nw))
 (sr [ge 10 (.alloc [.bF,.aa] 226)]
 (.seq (sr [mv 54 3]
 (cd 54
 (.dP [ge 55 (.call (fq 225) [tq 10,(.const (.str [45]))])])
 (.skip)))
 A.rL)))))))
def A.k155:=@A.kk 155 69 [.tmp 2] A.b155 (by kernel_rfl) rfl
def rM(n:Nat):List aM:=if h:n=0 then [] else (if n/1000000000000000000=0 then ar n else iA (n%1000000000000000000) 18)::rM (n/1000000000000000000)
termination_by n
decreasing_by omega
def RE:rM 0=[]:=by unfold rM;simp
def RF{n:Nat}(h:n≠0):rM n=(if n/1000000000000000000=0 then ar n else iA (n%1000000000000000000) 18)::rM (n/1000000000000000000):=by
 conv=>lhs;unfold rM
 rw[dif_neg h]
def Yok:∀{n:Nat},n≠0->(rM n).reverse.flatten=ar n:=by
 intro n
 induction n using Nat.strongRecOn with
 |_ n ih=>
  intro h
  rw[RF h]
  by_cases h0:n/1000000000000000000=0
  ·rw[ay h0,h0,RE];simp
  ·rw[ak h0,List.reverse_cons,List.flatten_append,ih _ (by omega) h0,HY h,HY h0]
   have e:=Zqb (k:=18) (a:=n/1000000000000000000) (b:=n%1000000000000000000) h0 (kZ _ (by decide))
   rw[show n/1000000000000000000*10^18+n%1000000000000000000=n by have:=uD n 1000000000000000000;omega]at e
   rw[e];simp
def Ztw{a:Nat}(h:a<=b):(de a).length<=(de b).length:=pK.1 (qx h (pK.2 (aQ _)))
def Yec:∀{n:Nat},(rM n).length<=(de n).length:=by
 intro n
 induction n using Nat.strongRecOn with
 |_ n ih=>
  by_cases h:n=0
  ·subst h;rw[RE];simp
  ·rw[RF h,bp,xB h,i_]
   have h1:=ih (n/1000000000000000000) (by omega)
   have h2:=Ztw (a:=n/1000000000000000000) (b:=n/10) (by omega)
   simp;omega
def Yk1:∀{n:Nat} {s:aM},s∈rM n->s≠[]:=by
 intro n
 induction n using Nat.strongRecOn with
 |_ n ih=>
  intro s hs
  by_cases h:n=0
  ·subst h;rw[RE]at hs;cases hs
  ·rw[RF h]at hs
   rcases kv.1 hs with hs|hs
   ·subst hs
    split
    ·exact JO n
    ·intro hc
     have:=Yjj (b:=n%1000000000000000000) (k:=18) (kZ _ (by decide))
     rw[hc]at this;simp at this
   ·exact ih _ (by omega) hs
def wg(l:List aM):List (List V):=l.map fun s=>[.str s]
def Yqi{q:V}{Q n n':Nat}{h h':T O}{e:TypeId}(hq:Wn h n q Q)(hQ:Q≠0)(hv:Own 1 e nB h n v (wg gs))(hh:∀j,j<n->h'.get j=h.get j\/(∃o m c y,v=.slice j o m c y))(hn:n<=n'):Wn h' n' q Q:=by
 obtain⟨d,hd⟩:∃d,(aH Q)[0]?=some d:=by rw[mX hQ];exact⟨_,rfl⟩
 rcases hq with⟨hz,_⟩|⟨i,o,cp,c,ee,rw,rfl,q1,q2,q3,q4⟩
 ·rw[mX hQ]at hz;simp[dg]at hz
 ·refine .inr ⟨i,o,cp,c,ee,rw,rfl,eY q1 hn,?_,q3,q4⟩
  rcases hh i q1 with h1|⟨o',m,c',y,rfl⟩
  ·rw[h1];exact q2
  ·exfalso
   rcases hv with⟨_,⟨_,h1⟩|⟨i',h1,_,_,h2⟩⟩
   ·cases h1
   ·simp only[V.slice.injEq]at h1
    obtain⟨rfl,_⟩:=h1
    rw[q2]at h2
    simp only[aq,O.cells.injEq]at h2
    have h3:=q3 0 (by rw[bC,mX hQ];simp)
    rw[fu hd,h2.1]at h3
    have:=bU h3
    obtain⟨l,hl,hx⟩:=List.mem_flatten.1 this
    obtain⟨s,_,rfl⟩:=fv.1 hl
    simp at hx
structure Nw (hB:T O) (nB M:Nat) (m:Nat) (r:T V) (st:St):Prop where
 w:av nB st.w=[]
 ae:ab hB nB st.h st.n
 ex:∃u v gs,r.get 4=some u/\r.get 6=some v/\pw u=some (aH m).length/\(m≠0->Wn st.h st.n u m)/\Own 1 9 nB st.h st.n v (wg gs)/\gs++rM m=rM M
def Ygt{hB:T O}{M m:Nat}{r0:T V}{t:V}(hP:l_ hB nB)(hM:(de M).length<100000000000)(hm:m<=M)(ht:Wn hB nB t 1000000000000000000)(a5:r.get 5=some t)(hf:Fx [(4,4),(6,9),(24,53)] r0 69 ⟨r,69,[]⟩)(s:Nw hB nB M m r sT):
  Code A.C none A.nw ⟨r,69,[]⟩ sT (Rd [(4,4),(6,9),(24,53)] r0 69 (fun k r st=>k<=M/\Nw hB nB M k r st) m (fun e r st=>e=.exit 0/\Nw hB nB M 0 r st)):=by
 obtain⟨H,n1,W⟩:=sT
 obtain⟨hW,hK,u,v,gs,a4,a6,lu,hu,ho,hg⟩:=s
 simp only at hW hK hu ho
 rw[bk]
 by_cases h0:m=0
 ·subst h0
  rw[rE]at lu
  simp[A.nw,hf,a4,lu]
  exact⟨hW,hK,u,v,gs,by simp[a4],by simp[a6],by rw[rE];exact lu,hu,ho,hg⟩
 ·replace hu:=hu h0
  have lp:0<(aH m).length:=by rw[mX h0];simp
  have lp':(0:Int)<((aH m).length:Int):=by omega
  have Ez:(aH m).length<1000000000000:=by
   have h1:=Fh (n:=m) (k:=(de M).length) (pK.2 (Ztw hm))
   unfold wl at h1
   simp at h1
   omega
  have Dk:(aH 1000000000000000000).length<1000000000000:=by rw[HF (by decide) (by decide)];decide
  have xK:gs.length+(rM m).length<=(de M).length:=by
   rw[<-i_,hg];exact Yec
  have nX:=RF h0
  rw[nX,bp]at xK
  simp[A.nw,hf,a4,a5,lu,lp,lp']
  refine aB (Zts hu (ht.ae hK) (by decide) Ez Dk) ?_
  rintro _ h2 n2 k2 ⟨q,HH,rfl,hq,LI⟩
  have lq:=hq.len
  have lr:=LI.len
  rw[bC]at lq lr
  have qJ:m%1000000000000000000<18446744073709551616:=by omega
  obtain⟨R,hR⟩:∃R,m%1000000000000000000=R:=⟨_,rfl⟩
  obtain⟨Q,hQ⟩:∃Q,m/1000000000000000000=Q:=⟨_,rfl⟩
  rw[hR]at lr LI nX
  rw[hQ]at lq hq nX xK
  have kk:=hK.trans k2
  have zg:=hP.ae kk
  have app:∀(h3:T O) (n3:Nat) (W3:List Nat) (g:aM),ab h2 n2 h3 n3->av nB W3=[]->g=(if Q=0 then ar m else iA R 18)->
    ∃v' h' w',gJ ⟨h3.set n3 (.cells [.str g] 9 true),n3+1,W3⟩ 1 16 9 v (.slice n3 0 1 (some 1) 1)=some (v',⟨h',n3+1+1,w'⟩)/\av nB w'=[]/\ab hB nB h' (n3+1+1)/\(Q≠0->Wn h' (n3+1+1) q Q)/\Own 1 9 nB h' (n3+1+1) v' (wg (gs++[g]))/\(gs++[g])++rM Q=rM M:=by
   intro h3 n3 W3 g k3 BR pr
   have kk3:=kk.trans k3
   have fh:=kk3.le
   have sZ:=(ho.ae (k2.trans k3)).ae (aL ab.refl (.cells [.str g] 9 true))
   obtain⟨v',h',w',e1,e2,e3,e4,e5⟩:=tP (x:=[.str g]) (u:=.slice n3 0 1 (some 1) 1) (bytes:=16) (w:=W3) sZ (by omega) (by decide) rfl (by simp[eA,St.row,aD]) (by simp[wg];omega)
   refine⟨v',h',w',e1,by rw[e2];exact BR,(kk3.trans (aL ab.refl _)).then e3,fun Dl=>?_,by simpa[wg]using e5,by rw[pr,<-hg,nX,tv];rfl⟩
   have Nc:=(hq.ae k3).ae (aL ab.refl (.cells [.str g] 9 true))
   refine Yqi Nc Dl sZ (fun j hj=>?_) (vw _)
   rcases e4 j with h1|h1|h1
   ·exact .inl h1
   ·omega
   ·exact .inr h1
  have f18:((18:Int)-1)=((17:Nat):Int):=rfl
  by_cases zM:R=0
  ·have Dl:Q≠0:=by omega
   have J8:0<(aH Q).length:=by rw[mX Dl];simp
   have yy:(0:Int)<((aH Q).length:Int):=by omega
   have pr:[48,48,48,48,48,48,48,48,48,48,48,48,48,48,48,48,48,48]=(if Q=0 then ar m else iA R 18):=by rw[ak Dl,zM];unfold iA;rw[tO];rfl
   rw[zM,rE]at lr
   simp[hf,a4,a5,a6,lq,lr,J8,yy]
   refine aB (Zsn (k:=17) (by decide)) ?_
   rintro _ h3 n3 k3 rfl
   obtain⟨v',h',w',e1,e2,e3,e4,e5,e6⟩:=app h3 n3 W _ k3 hW pr
   simp[hf,a4,a5,a6,lq,lr,J8,yy,g_,ad,e1]
   exact⟨Q,by omega,by omega,⟨e2,e3,q,v',_,by simp,by simp,lq,e4,e5,e6⟩⟩
  ·have hRw:aH R=[R]:=HF (by unfold B;omega) zM
   obtain⟨i,o,c,e,wr,p1,p2,p3,p4⟩:=LI.at (fu (l:=aH R) (j:=0) (n:=R) (by rw[hRw];rfl))
   rw[hRw]at lr
   have lr:pw HH=some 1:=lr
   have Zd:=HY zM
   rw[mP]at p4
   by_cases Dl:Q=0
   ·have pr:ar R=(if Q=0 then ar m else iA R 18):=by rw[ay Dl];congr 1;omega
    have lqz:(aH Q).length=0:=by rw[Dl,rE];rfl
    rw[lqz]at lq
    simp[hf,a4,a5,a6,lq,lr,p1,p3,p4]
    refine aB (Yk3 (x:=R) (by omega) zg) ?_
    rintro _ h3 n3 k3 rfl
    obtain⟨v',h',w',e1,e2,e3,e4,e5,e6⟩:=app h3 n3 W _ k3 hW pr
    simp[hf,a4,a5,a6,lq,lr,g_,ad,e1]
    exact⟨Q,by omega,by omega,⟨e2,e3,q,v',_,by simp,by simp,by rw[lqz];exact lq,e4,e5,e6⟩⟩
   ·have J8:0<(aH Q).length:=by rw[mX Dl];simp
    have yy:(0:Int)<((aH Q).length:Int):=by omega
    have zaD:(de R).length<=18:=pK.1 (by omega)
    have pr:List.replicate (18-(ar R).length) 48++ar R=(if Q=0 then ar m else iA R 18):=by rw[ak Dl,Zd];rfl
    have hs:(18:Int)-((ar R).length:Int)=((18-(ar R).length:Nat):Int):=by rw[Zd];omega
    have J9:¬(9223372036854775807:Int)<(((List.replicate (18-(ar R).length) (48:UInt8)).length+(ar R).length:Nat):Int):=by rw[List.length_replicate,Zd];omega
    simp[hf,a4,a5,a6,lq,lr,J8,yy,p1,p3,p4]
    refine aB (Yk3 (x:=R) (by omega) zg) ?_
    rintro _ h3 n3 k3 rfl
    generalize ar R=S at*
    simp(disch:=omega) [hf,a4,a5,a6,lq,lr,J8,yy,hs]
    refine aB (Zsn (k:=18-S.length) (by omega)) ?_
    rintro _ h4 n4 k4 rfl
    obtain⟨v',h',w',e1,e2,e3,e4,e5,e6⟩:=app h4 n4 W _ (k3.trans k4) hW pr
    generalize List.replicate (18-S.length) (48:UInt8)=Z at*
    have df:IntKind.max .i64=9223372036854775807:=rfl
    have Ze:¬(9223372036854775807:Int)<(Z.length:Int)+(S.length:Int):=by omega
    simp[hf,a4,a5,a6,lq,lr,J8,yy,g_,df,J9,Ze,ad,e1]
    exact⟨Q,by omega,by omega,⟨e2,e3,q,v',_,by simp,by simp,lq,e4,e5,e6⟩⟩
structure Nx (hb:T O) (n0 b:Nat) (gs:List aM) (pre:aM) (k:Nat) (r:T V) (st:St):Prop where
 hk:k<=gs.length
 v_:r.get 11=some (.int .i64 ((k:Int)-1))
 w:av n0 st.w=[]
 Nt:∀i,i<b->st.h.get i=hb.get i
 bd:Bd st.h st.n b (pre++(gs.drop k).reverse.flatten)
def Yja(gs:List aM)(k:Nat):gs.reverse.flatten=(gs.drop k).reverse.flatten++(gs.take k).reverse.flatten:=by
 conv=>lhs;rw[<-Cl k gs]
 rw[List.reverse_append,List.flatten_append]
def Ygq{j:Nat}{s:aM}(h:gs[j]?=some s):(wg gs).flatten[j]?=some (.str s):=by
 have:∀gs:List aM,(wg gs).flatten=gs.map V.str:=by
  intro gs
  induction gs with
  |nil=>rfl
  |cons a gs ih=>show V.str a::(wg gs).flatten=_;rw[ih];rfl
 rw[this,fV,h];rfl
def Ygs{hb:T O}{nB n0 b k:Nat}{gs:List aM}{pre:aM}{v:V}{r r0:T V}{sT:St}(pS:n0<=b)(hl:pre.length+gs.reverse.flatten.length<1000000000000)(xK:gs.length<1000000000000)(aW:∀s∈gs,s≠[])(ho:Own 1 9 nB hb b v (wg gs))(a6:r.get 6=some v)(Hv:r.get 10=some (.ptr b 0))(hf:Fx [(11,11),(59,67)] r0 69 ⟨r,69,[]⟩)(s:Nx hb n0 b gs pre k r sT):
  Code A.C none A.nv ⟨r,69,[]⟩ sT (Rd [(11,11),(59,67)] r0 69 (Nx hb n0 b gs pre) k (fun e r st=>e=.exit 2/\Nx hb n0 b gs pre 0 r st)):=by
 obtain⟨H,n1,W⟩:=sT
 obtain⟨hk,BO,hW,hO,Fi⟩:=s
 simp only at hW hO Fi
 rw[bk]
 cases k with
 |zero=>
  have c1:¬(0:Int)<=((0:Nat):Int)-1:=by omega
  have Ny:r.get 11=some (.int .i64 (-1)):=BO
  simp[A.nv,hf,Ny]
  exact⟨hk,by simp[Ny],hW,hO,Fi⟩
 |succ j=>
  have e1:((j+1:Nat):Int)-1=(j:Int):=by omega
  rw[e1]at BO
  obtain⟨g,hg⟩:∃g,gs[j]?=some g:=⟨_,c9 (by omega)⟩
  have C1:=Ygq hg
  have lv:=ho.len
  have lg:(wg gs).length=gs.length:=by simp[wg]
  rw[lg]at lv
  have F3:(j:Int)<(gs.length:Int):=by omega
  rcases ho with⟨_,⟨h1,_⟩|⟨i,rfl,h2,h3,h4⟩⟩
  ·exfalso
   have:gs=[]:=by simpa[wg]using h1
   subst this;simp at hk
  ·have al:=(hO i h3).trans h4
   have H9:(gs.drop j).reverse.flatten=(gs.drop (j+1)).reverse.flatten++g:=by
    have:gs.drop j=g::gs.drop (j+1):=by
     rw[Gh (by omega)]
     congr 1
     rw[c9 (by omega)]at hg
     simpa using hg
    rw[this,List.reverse_cons,List.flatten_append];simp
   have Zf:=congrArg List.length (Yja gs j)
   rw[H9,i_,i_]at Zf
   simp[A.nv,hf,a6,Hv,BO,lv,al,C1,F3,lg]
   refine Ag (Ybd pS Fi (aW g (bU hg)) (by rw[i_];omega)) ?_
   rintro _ ⟨H2,n2,W2⟩ ⟨hn,dZ,xu,rz⟩
   simp only at hn dZ xu rz
   subst hn
   simp(disch:=first|(simp;done)|omega|(simp only[bC,cB,bp];omega)|rfl) [hf,BO]
   refine⟨j,by omega,by omega,by simp,by rw[dZ,hW],fun i hi=>(xu i hi).trans (hO i hi),?_⟩
   rw[H9,<-tv];exact rz
def Yby{hb:T O}{n0:Nat}{pre:aM}(pS:n0<=b)(hl:pre.length+gs.reverse.flatten.length<1000000000000)(xK:gs.length<1000000000000)(aW:∀s∈gs,s≠[])(RG:pre++gs.reverse.flatten≠[])(ho:Own 1 9 nB hb b v (wg gs))(a6:r.get 6=some v)(Hv:r.get 10=some (.ptr b 0))
  (hW:av n0 sT.w=[]) (hO:∀i,i<b->sT.h.get i=hb.get i) (Fi:Bd sT.h sT.n b pre):
  Code A.C none A.rL ⟨r,69,[]⟩ sT (fun e fr st=>e=.ret/\∃r',fr=⟨r',69,[]⟩/\r'.get 2=some (.str (pre++gs.reverse.flatten))/\av n0 st.w=[]/\(∀i,i<b->st.h.get i=hb.get i)/\b<=st.n):=by
 obtain⟨H,n1,W⟩:=sT
 simp only at hW hO Fi
 rw[bk]
 have lv:=ho.len
 rw[show (wg gs).length=gs.length by simp[wg]]at lv
 simp(disch:=omega) [A.rL,a6,lv]
 refine bG [(11,11),(59,67)] (fun e r st=>e=.exit 2/\Nx hb n0 b gs pre 0 r st) (Nx hb n0 b gs pre) gs.length ?_ ?_ ?_
 ·exact⟨aQ _,by simp,hW,hO,by simpa using Fi⟩
 ·intro k r' az hr hf J
  exact Ygs pS hl xK aW ho (by rw[hr 6 (by decide)];simp[a6]) (by rw[hr 10 (by decide)];simp[Hv]) hf J
 ·rintro e r' ⟨H2,n2,W2⟩ hr ⟨rfl,hk,_,dZ,xu,rz⟩
  simp only at dZ xu rz
  rw[yU]at rz
  have hb3:=rz.1
  have Zg:r'.get 10=some (.ptr b 0):=by rw[hr 10 (by decide)];simp[Hv]
  simp[Zg]
  refine Ag (Ypq pS rz RG (by rw[i_];omega)) ?_
  rintro _ ⟨H3,n3,W3⟩ ⟨rfl,hn,BR,EZ⟩
  simp only at hn BR EZ
  subst hn
  simp[]
  exact⟨by rw[BR,dZ],fun i hi=>(EZ i hi).trans (xu i hi),by omega⟩
def RH{x:V}{z:Int}{h:T O}{N:Nat}(hx:In h N x z)(hP:l_ h N)(hl:(de z.natAbs).length<100000000000):Fn A.C 155 [x] h N (fun v h' N'=>v=.str (aK z)):=by
 intro w
 rw[aN,A.k155 (by simp)]
 rcases id hx with⟨rfl,h1,h2⟩|⟨i0,o0,l0,c0,rfl,hw0,tg⟩
 ·simp[A.b155,aO,aD,ad,aE]
  refine aB (Yod h1 h2 (hP.ae (aL ab.refl _))) ?_
  rintro _ h3 n3 k3 rfl
  simp[aA]
  exact(aL ab.refl _).trans k3
 ·simp[A.b155,aO,aD,ad,aE]
  refine aB (Db (hx.ae (aL ab.refl (.cells [.int .i64 (yx z),.slice i0 o0 l0 c0 1] 78 true)))) ?_
  rintro _ h1 n1 k1 ⟨u,rfl,hu⟩
  obtain⟨M,hM⟩:∃M,z.natAbs=M:=⟨_,rfl⟩
  rw[hM]at hu hl
  have hM0:M≠0:=by omega
  have lu:=hu.len
  rw[bC]at lu
  have kN:=(aL (ab.refl (h:=h) (n:=N)) (.cells [.int .i64 (yx z),.slice i0 o0 l0 c0 1] 78 true)).trans k1
  have kT:=aL (ab.refl (h:=h1) (n:=n1)) (.cells [.int .u64 1000000000000000000] 191 true)
  have hT:Wn (h1.set n1 (.cells [.int .u64 1000000000000000000] 191 true)) (n1+1) (.slice n1 0 1 (some 1) 1) 1000000000000000000:=by
   unfold Wn
   rw[HF (by decide) (by decide)]
   exact Sl.row (e:=191) (rw:=true) (L:=1) (by omega) (by simp[dg]) (by simp) (by simp)
  simp[aO,aD,ad]
  generalize jW:h1.set n1 (.cells [.int .u64 1000000000000000000] 191 true)=hB at*
  have hPB:=(hP.ae kN).ae kT
  refine bG [(4,4),(6,9),(24,53)] (fun e r st=>e=.exit 0/\Nw hB (n1+1) M 0 r st) (fun k r st=>k<=M/\Nw hB (n1+1) M k r st) M ?_ ?_ ?_
  ·exact⟨aQ _,by simp[av],ab.refl,u,.aa,[],by simp,by simp,lu,fun _=>hu.ae kT,Own.nil,rfl⟩
  ·rintro m r st hr hf ⟨hm,J⟩
   exact Ygt hPB hl hm hT (by rw[hr 5 (by decide)];simp) hf J
  ·rintro e r ⟨H,n2,W⟩ hr ⟨rfl,hW,hK,u2,v,gs,a4,a6,_,_,ho,hg⟩
   rw[RE,zy]at hg
   subst hg
   simp only at hW hK ho
   have fh:=hK.le
   have xD:=kN.le
   have a3:r.get 3=some (.bool (decide (z<0))):=by rw[hr 3 (by decide)];simp
   have ki:=Yok hM0
   have xK:(rM M).length<1000000000000:=qx Yec (by omega)
   have iw:(ar M).length<100000000000:=by rw[HY hM0];exact hl
   have sV:Bd (H.set n2 (.cells [.bF,.aa] 226 true)) (n2+1) n2 []:=⟨vt _,.bF,.aa,by rw[T.ag,ay rfl],.inl rfl,.inl ⟨rfl,rfl⟩⟩
   by_cases hz:z<0
   ·have BU:aK z=[45]++(rM M).reverse.flatten:=by unfold aK;rw[ay hz,hM,ki];rfl
    simp[a3,hz]
    refine Ag (Ybd (n0:=n1+1) fh sV (t:=[45]) (by decide) (by decide)) ?_
    rintro _ ⟨H2,n3,W2⟩ ⟨hn,dZ,xu,rz⟩
    simp only at hn dZ xu rz
    subst hn
    simp[]
    refine mi (Yby (nB:=n1+1) (n0:=n1+1) (b:=n2) (hb:=H) (gs:=rM M) (pre:=[45]) (v:=v) fh (by rw[ki];simp;omega) xK (fun s hs=>Yk1 hs) (by simp) ho (by simp[a6]) (by simp) (by rw[dZ,hW]) (fun i hi=>by rw[xu i hi,T.ag,ak (by omega)]) rz) ?_
    rintro e fr ⟨H6,n6,W6⟩ ⟨rfl,r6,rfl,g2,g3,g4,g5⟩
    simp only at g3 g4 g5
    have Zh:=JY (show N<=n1+1 by omega) g3
    simp[g2,aA,Zh,BU]
    exact⟨by omega,fun i hi=>by rw[g4 i (by omega),hK.get i (by omega),<-jW,T.ag,ak (by omega),kN.get i hi]⟩
   ·have BU:aK z=[]++(rM M).reverse.flatten:=by unfold aK;rw[ak hz,hM,ki];rfl
    simp[a3,hz]
    refine mi (Yby (nB:=n1+1) (n0:=n1+1) (b:=n2) (hb:=H) (gs:=rM M) (pre:=[]) (v:=v) fh (by rw[ki];simp;omega) xK (fun s hs=>Yk1 hs) (by rw[List.nil_append,ki];exact JO M) ho (by simp[a6]) (by simp) hW (fun i hi=>by rw[T.ag,ak (by omega)]) sV) ?_
    rintro e fr ⟨H6,n6,W6⟩ ⟨rfl,r6,rfl,g2,g3,g4,g5⟩
    simp only at g3 g4 g5
    have Zh:=JY (show N<=n1+1 by omega) g3
    simp[g2,aA,Zh,BU]
    exact⟨by omega,fun i hi=>by rw[g4 i (by omega),hK.get i (by omega),<-jW,T.ag,ak (by omega),kN.get i hi]⟩
end Go.Mx
