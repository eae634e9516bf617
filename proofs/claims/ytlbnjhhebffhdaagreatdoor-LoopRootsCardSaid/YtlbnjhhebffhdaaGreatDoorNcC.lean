/-strings-/
import Derived.Test.YtlbnjhhebffhdaaGreatDoorNcA
set_option linter.all false
set_option maxHeartbeats 4000000
namespace Go.Mx
noncomputable section
open Go Go.Proofs
set_option maxRecDepth 1000000
def Yct:List UInt8:=List.replicate 128 32
def Ycs:List UInt8:=List.replicate 128 45
def Ykp:List UInt8:=List.replicate 128 61
def Yp6:List UInt8:=List.replicate 64 9
def Ki:List UInt8:=List.replicate 64 48
def A.CU:cC:=.seq (sr [c1 111 277 9,mv 112 7,bi 113 .lss 111 112]
 (cd 113
 (.skip)
 (.exit 3)))
 (.block 4 (sr [mv 114 7,c1 115 277 9,bi 116 .sub 114 115,c1 117 277 9,mv 118 8,ge 119 (.mn [tq 116,tq 117,tq 118]),mv 10 119]
 (.fk [c1 120 248 9,mv 121 10,ge 122 (.cI (tq 120) none (some (tq 121))),c2 123 247 9 122])))
def A.b246:cC:=sr [ge 4 (.kv (.const (.str [])))]
 (.seq (sr [mv 11 1]
 (.block 0 (sr [ei 13 11 0,mv 12 13]
 (cd 12
 (sr [ge 4 (.kv (.const (.str [])))]
 (.ret))
 (sr [ei 15 11 1,mv 14 15]
 (cd 14
 (sr [mv 16 0,mv 4 16]
 (.ret))
 (.skip)))))))
 (.seq (sr [mv 17 1,bc 18 .lss 17 0]
 (cd 18
 (.fk [ge 19 (.fm 9 (.const (.str [115,116,114,105,110,103,115,58,32,110,101,103,97,116,105,118,101,32,82,101,112,101,97,116,32,99,111,117,110,116]))),gn (.stop)])
 (.skip)))
 (sr [mv 21 0,ge 22 (.len 0 (tq 21)),ge 23 (.zig .u64 (tq 22)),mv 24 1,ge 25 (.zig .u64 (tq 24)),c2 26 185 23 25,mv 20 26,xt 27 20 0,xt 28 20 1,mv 5 27,mv 6 28]
 (.seq (sr [mv 29 5,ge 30 (.bin .gtr (.node []) false (tq 29) (.const (.int .u64 0))),mv 31 30,mh 32 6 31,gz 33 31 (.bin .gtr (.node []) false (tq 32) (.const (.int .u64 9223372036854775807))),pt 34 31 33]
 (cd 34
 (.fk [ge 35 (.fm 9 (.const (.str [115,116,114,105,110,103,115,58,32,82,101,112,101,97,116,32,111,117,116,112,117,116,32,108,101,110,103,116,104,32,111,118,101,114,102,108,111,119]))),gn (.stop)])
 (.skip)))
 (sr [mv 36 6,ge 37 (.zig .i64 (tq 36)),mv 7 37]
 (.seq (sr [mv 38 0,ge 39 (.len 0 (tq 38)),ei 40 39 0]
 (cd 40
 (sr [ge 4 (.kv (.const (.str [])))]
 (.ret))
 (.skip)))
 (.seq (sr [mv 41 0,ge 42 (.bP (tq 41) (kq 0))]
 (.block 1 (.seq (sr [ge 44 (.bin .eql (.zgf .int) true (tq 42) (.const (.int .u8 32))),mv 43 44]
 (cd 43
 (.skip)
 (sr [ge 45 (.bin .eql (.zgf .int) true (tq 42) (.const (.int .u8 45))),mv 43 45]
 (cd 43
 (.skip)
 (sr [ge 46 (.bin .eql (.zgf .int) true (tq 42) (.const (.int .u8 48))),mv 43 46]
 (cd 43
 (.skip)
 (sr [ge 47 (.bin .eql (.zgf .int) true (tq 42) (.const (.int .u8 61))),mv 43 47]
 (cd 43
 (.skip)
 (.fk [ge 48 (.bin .eql (.zgf .int) true (tq 42) (.const (.int .u8 9))),mv 43 48])))))))))
 (cd 43
 (.block 2 (sr [mv 50 7,bc 51 .leq 50 128,mv 52 51,mg 53 0 52,gy 54 52 (.call (fq 222) [(.const (.str Yct)),tq 53]),pf 55 52 54,mv 49 55]
 (cd 49
 (sr [mv 56 7,ge 57 (.cI (.const (.str Yct)) none (some (tq 56))),mv 4 57]
 (.ret))
 (sr [mv 59 7,bc 60 .leq 59 128,mv 61 60,mg 62 0 61,gy 63 61 (.call (fq 222) [(.const (.str Ycs)),tq 62]),pf 64 61 63,mv 58 64]
 (cd 58
 (sr [mv 65 7,ge 66 (.cI (.const (.str Ycs)) none (some (tq 65))),mv 4 66]
 (.ret))
 (sr [mv 68 7,bc 69 .leq 68 64,mv 70 69,mg 71 0 70,gy 72 70 (.call (fq 222) [(.const (.str Ki)),tq 71]),pf 73 70 72,mv 67 73]
 (cd 67
 (sr [mv 74 7,ge 75 (.cI (.const (.str Ki)) none (some (tq 74))),mv 4 75]
 (.ret))
 (sr [mv 77 7,bc 78 .leq 77 128,mv 79 78,mg 80 0 79,gy 81 79 (.call (fq 222) [(.const (.str Ykp)),tq 80]),pf 82 79 81,mv 76 82]
 (cd 76
 (sr [mv 83 7,ge 84 (.cI (.const (.str Ykp)) none (some (tq 83))),mv 4 84]
 (.ret))
 (sr [mv 86 7,bc 87 .leq 86 64,mv 88 87,mg 89 0 88,gy 90 88 (.call (fq 222) [(.const (.str Yp6)),tq 89]),pf 91 88 90,mv 85 91]
 (cd 85
 (sr [mv 92 7,ge 93 (.cI (.const (.str Yp6)) none (some (tq 92))),mv 4 93]
 (.ret))
 (.skip))))))))))))
 (.skip)))))
 (sr [mv 94 7,mv 8 94]
 (.seq (sr [mv 95 7,bc 96 .gtr 95 8192]
 (cd 96
 (sr [mv 97 0,ge 98 (.len 0 (tq 97)),ge 99 (.bin .quo (.node []) false (kq 8192) (tq 98)),mv 100 0,ge 101 (.len 0 (tq 100)),bi 102 .mul 99 101,mv 8 102]
 (sr [mv 103 8,ei 104 103 0]
 (cd 104
 (.fk [mv 105 0,ge 106 (.len 0 (tq 105)),mv 8 106])
 (.skip))))
 (.skip)))
 (sr [ge 9 (.alloc [.bO,.ziA] 261)]
 (sr [mv 107 7,c2 108 276 9 107]
 (sr [mv 109 0,c2 110 247 9 109]
 (.seq (.block 3 (.loop A.CU))
 (sr [c1 124 248 9,mv 4 124]
 (.ret)))))))))))))))
def A.k246:=@A.kk 246 125 [.tmp 4] A.b246 (by kernel_rfl) rfl
def A.b185:=A.q Tryz.f185
def A.k185:=@A.kk 185 30 [.tmp 4,.tmp 5] A.b185 (by kernel_rfl) rfl
def Yow{h:T O}{N:Nat}{x y:Nat}(hx:x<18446744073709551616)(hy:y<18446744073709551616):Fn A.C 185 [.int .u64 x,.int .u64 y] h N (fun v' h' N'=>h'=h/\N'=N/\v'=.aX [.int .u64 (cG (x*y):Nat),.int .u64 (bJ (x*y):Nat)]):=by
 intro w
 rw[aZ,A.k185 (by simp)]
 simp[A.b185]
 refine av (PU hx hy) ?_
 rintro _ _ _ k1 ⟨rfl,rfl,rfl⟩
 simp[Ret]
 exact k1
def Ye0{a c:UInt8}{s:bj}{st:St}:A.C.call (.func 222 [] []) [.str (a::s),.str [c]] st=some (.bool (decide (a=c)),st):=by
 have e:(([a]:bj)==[c])=decide (a=c):=by
  rw[Bool.eq_iff_iff]
  simp
 have h1:(1:Int)<=(s.length:Int)+1:=by omega
 apply Call.eq
 rw[aZ,A.k222 (by simp)]
 have rQ:∀st,A.C.call (.func 250 [] []) [.str (a::s),.str [c]] st=some (.bool (decide (a=c)),st):=fun st=>by
  apply Call.eq
  rw[aZ,A.k250 (by simp)]
  simp[A.b250,aH,dG,Zed,xW,e,h1]
 simp[A.b222,rQ]
def Yvi{st:St}:A.C.call (.func 222 [] []) [.str Yct,.str [48]] st=some (.bool false,st):=Ye0 (a:=32) (s:=List.replicate 127 32)
def Yvh{st:St}:A.C.call (.func 222 [] []) [.str Ycs,.str [48]] st=some (.bool false,st):=Ye0 (a:=45) (s:=List.replicate 127 45)
def Yvg{st:St}:A.C.call (.func 222 [] []) [.str Ki,.str [48]] st=some (.bool true,st):=Ye0 (a:=48) (s:=List.replicate 63 48)
def Zy4{k:Nat}(h:k<=64):List.take k Ki=List.replicate k 48:=by
 unfold Ki
 rw[List.take_replicate,oW h]
def Ycr:Ki.length=64:=by simp[Ki]
def Zr3{k:Nat}(hk:k<=18){h:T O}{N:Nat}:Fn A.C 246 [.str [48],.int .i64 k] h N (fun v h' N'=>v=.str (List.replicate k 48)):=by
 intro w
 rw[aZ,A.k246 (by simp)]
 by_cases c0:k=0
 ·subst c0
  simp[A.b246,Ret]
  exact ah.refl
 ·by_cases c1:k=1
  ·subst c1
   simp[A.b246,Ret]
   exact ah.refl
  ·have c3:¬(k:Int)=1:=by omega
   have e0:bA .u64 (1:Int)=((1:Nat):Int):=Ej (by omega) (by omega)
   have e1:bA .u64 (k:Int)=(k:Int):=Ej (by omega) (by omega)
   have c4:¬(k:Int)<0:=by omega
   simp[A.b246,c0,c3,c4,e0,e1]
   refine av (Yow (x:=1) (y:=k) (by omega) (by omega)) ?_
   rintro _ _ _ _ ⟨rfl,rfl,rfl⟩
   have g1:cG (1*k)=0:=by unfold cG;omega
   have g2:bJ (1*k)=k:=by unfold bJ;omega
   have g3:¬(9223372036854775807:Int)<(k:Int):=by omega
   have g4:bA .i64 (k:Int)=(k:Int):=cH (by omega) (by omega)
   have g7:cX 48=48:=rfl
   have g5:(k:Int)<=128:=by omega
   have g6:(k:Int)<=64:=by omega
   rw[g1,g2]
   simp(disch:=omega) [g3,g4,g5,g6,g7,Yvi,Yvh,Yvg,xW,aH,dG,Zed,Ycr,Zy4,Ret]
   exact ah.refl
variable {N b:Nat} {h:T O} {s:bj}
def A.b278:cC:=sr [mv 2 0,ge 3 (.nj (tq 2)),fa 4 0 3,ld 5 4,ge 6 (.bin .eql (.zgf .ptr) true (tq 5) (.const .bO))]
 (cd 6
 (.fk [mv 7 0,mv 8 0,ge 9 (.Lu none (tq 8)),ge 10 (.ext .same [tq 9]),ge 11 (.Lu (some (261,2)) (tq 10)),ge 12 (.nj (tq 7)),fa 13 0 12,so 13 11])
 (sr [mv 14 0,ge 15 (.nj (tq 14)),fa 16 0 15,ld 17 16,mv 18 0,ge 19 (.bin .neq (.zgf .ptr) false (tq 17) (tq 18))]
 (cd 19
 (.stop)
 (.skip))))
def A.k278:=@A.kk 278 20 [] A.b278 (by kernel_rfl) rfl
def A.b247:=A.q Tryz.f247
def A.k247:=@A.kk 247 19 [.tmp 4,.tmp 5] A.b247 (by kernel_rfl) rfl
def A.b248:=A.q Tryz.f248
def A.k248:=@A.kk 248 14 [.tmp 2] A.b248 (by kernel_rfl) rfl
def Bd(h:T O)(N b:Nat)(s:bj):Prop:=b<N/\∃p v,h.get b=some (.cells [p,v] 261 true)/\(p=.bO\/p=.ptr b 0)/\((v=.ziA/\s=[])\/∃j,v=.slice j 0 s.length none 1/\b<j/\j<N/\s≠[]/\h.get j=some (.cells (s.map vB) 5 true))
def Yor{n2:Nat}{w:List Nat}(eP:n2<=b)(hb:Bd h N b s):Call A.C (.func 278 [] []) [.ptr b 0] ⟨h,N,w⟩ (fun _ st=>st.n=N/\aL n2 st.w=aL n2 w/\(∀i,i<b->st.h.get i=h.get i)/\Bd st.h N b s):=by
 obtain⟨hN,p,v,hr,hp,hv⟩:=hb
 have pN:¬b<n2:=by omega
 rw[aZ,A.k278 (by simp)]
 rcases hp with rfl|rfl
 ·simp[A.b278,hr,a_,DR,hN,pN]
  refine⟨fun i hi hc=>by omega,hN,.ptr b 0,v,?_,.inr rfl,?_⟩
  ·rw[T.al,aR rfl];rfl
  ·rcases hv with hv|⟨j,h1,h2,h3,h4,h5⟩
   ·exact .inl hv
   ·exact .inr ⟨j,h1,h2,h3,h4,by rw[T.al,aA (by omega)];exact h5⟩
 ·simp[A.b278,hr,a_]
  exact⟨hN,.ptr b 0,v,hr,.inr rfl,hv⟩
def Ybn{n0:Nat}{t:bj}{w:List Nat}(wj:n0<=b)(hb:Bd h N b s)(ht:t≠[])(hl:s.length+t.length<1000000000000):Call A.C (.func 247 [] []) [.ptr b 0,.str t] ⟨h,N,w⟩ (fun _ st=>st.n=N+1/\aL n0 st.w=aL n0 w/\(∀i,i<b->st.h.get i=h.get i)/\Bd st.h (N+1) b (s++t)):=by
 rw[aZ,A.k247 (by simp)]
 simp[A.b247]
 refine A6 (Yor wj hb) ?_
 rintro _ ⟨H2,n2,W2⟩ ⟨hn,hW,hO,pN⟩
 simp only at hn hW hO pN
 subst hn
 obtain⟨hN,p,v,hr,hp,hv⟩:=pN
 have jS:¬t.length=0:=by simpa using ht
 have hc:(t.map vB).length=t.length:=by simp
 have hW0:aL n0 W2=[]:=hW
 have m1:2*t.length<=281474976710656:=by omega
 have m2:¬281474976710656<2*(s.length+t.length):=by omega
 have m3:¬s.length+t.length<=s.length:=by omega
 have cv:¬b=n2:=by omega
 have qN:¬b<n0:=by omega
 rcases hv with⟨rfl,rfl⟩|⟨j,rfl,h2,h3,h4,h5⟩
 ·simp[-aL,hr,B4,tf,oL,AU,jS,St.alloc,m1,cv,bM,aj]
  refine⟨PR (PS (by simp[aL,hW0,qN])),fun i hi=>?_,by omega,p,.slice n2 0 t.length none 1,by rw[T.al,aR rfl],hp,.inr ⟨n2,rfl,hN,by omega,ht,by rw[T.al,aA (by omega),T.al,aR rfl];rfl⟩⟩
  rw[aA (by omega),aA (by omega)];exact hO i hi
 ·have kj:¬b=j:=by omega
  have A9:¬j<n0:=by omega
  simp[-aL,hr,B4,tf,oL,AU,jS,St.alloc,St.row,h5,m2,m3,cv,kj,bM,aj]
  refine⟨PR (PS (by simp[aL,hW0,qN,A9])),fun i hi=>?_,by omega,p,.slice n2 0 (s.length+t.length) none 1,by rw[T.al,aR rfl],hp,.inr ⟨n2,by simp,hN,by omega,by simp[h4],by rw[T.al,aA (by omega),T.al,aR rfl,List.map_append];rfl⟩⟩
  rw[aA (by omega),aA (by omega),aA (by omega)];exact hO i hi
def Yl4{α:Type}(c:List α):aK c 0 c.length=some c:=by unfold aK;simp
def Ztk:∀(s:bj),I4 (s.map vB)=some s
 |[]=>rfl
 |c::s=>by
  rw[Yw1]
  have h1:Ti (vB c)=some c:=by
   unfold Ti vB cX
   have:=c.toNat_lt
   simp
   omega
  simp only[I4,h1,Ztk s]
def Yov{n0:Nat}{w:List Nat}(wj:n0<=b)(hb:Bd h N b s)(hs:s≠[])(hl:s.length<1000000000000):Call A.C (.func 248 [] []) [.ptr b 0] ⟨h,N,w⟩ (fun v st=>v=.str s/\st.n=N/\aL n0 st.w=aL n0 w/\(∀i,i<b->st.h.get i=h.get i)):=by
 obtain⟨hN,p,v,hr,hp,hv⟩:=hb
 rw[aZ,A.k248 (by simp)]
 rcases hv with⟨_,rfl⟩|⟨j,rfl,h2,h3,h4,h5⟩
 ·exact absurd rfl hs
 ·have h0:0<s.length:=List.length_pos_iff.2 hs
  have rQ:(0:Int)<(s.length:Int):=by omega
  have hm:(s.length:Int)<=9223372036854775807:=by omega
  have de:aK (s.map vB) 0 s.length=some (s.map vB):=by
   have:=Yl4 (s.map vB)
   rw[Lh]at this
   exact this
  have hbm:=Ztk s
  have A9:¬j<n0:=by omega
  simp[A.b248,hr,LN,LP,h0,hm,h5,h3,hN,de,hbm,A9]
  exact fun i hi hc=>by omega
variable {b nB:Nat} {gs:List bj} {r:T V} {sT:St} {v:V}
def A.CV:=A.q Tryz.f213
def A.jE:=A.ql A.CV 1 []
def A.jF:=A.ql A.CV 0 []
def A.qV:=(fun x0 x1=>A.qt A.CV [x0,x1] [] [1,1,1,1,1,1,1,1]) A.jF A.jE
def A.b213:=(fun x0 x1 y0=>A.qt A.CV [x0,x1] [([1,1,1,1,1,1,1,1],y0)] []) A.jF A.jE A.qV
def A.k213:=@A.kk 213 69 [.tmp 2] A.b213 (by kernel_rfl) rfl
def qW(n:Nat):List bj:=if h:n=0 then [] else (if n/1000000000000000000=0 then aq n else Zip (n%1000000000000000000) 18)::qW (n/1000000000000000000)
termination_by n
decreasing_by omega
def UH:qW 0=[]:=by unfold qW;simp
def UI{n:Nat}(h:n≠0):qW n=(if n/1000000000000000000=0 then aq n else Zip (n%1000000000000000000) 18)::qW (n/1000000000000000000):=by
 conv=>lhs;unfold qW
 rw[dif_neg h]
def Yn0:∀{n:Nat},n≠0->(qW n).reverse.flatten=aq n:=by
 intro n
 induction n using Nat.strongRecOn with
 |_ n ih=>
  intro h
  rw[UI h]
  by_cases h0:n/1000000000000000000=0
  ·rw[aR h0,h0,UH];simp
  ·rw[aA h0,List.reverse_cons,List.flatten_append,ih _ (by omega) h0,Kh h,Kh h0]
   have e:=Zpx (k:=18) (a:=n/1000000000000000000) (b:=n%1000000000000000000) h0 (kf _ (by decide))
   rw[show n/1000000000000000000*10^18+n%1000000000000000000=n by have:=tA n 1000000000000000000;omega]at e
   rw[e];simp
def Ztd{a:Nat}(h:a<=b):(dk a).length<=(dk b).length:=oS.1 (oe h (oS.2 (Yv5 _)))
def Ye2:∀{n:Nat},(qW n).length<=(dk n).length:=by
 intro n
 induction n using Nat.strongRecOn with
 |_ n ih=>
  by_cases h:n=0
  ·subst h;rw[UH];simp
  ·rw[UI h,bC,wE h,iJ]
   have h1:=ih (n/1000000000000000000) (by omega)
   have h2:=Ztd (a:=n/1000000000000000000) (b:=n/10) (by omega)
   simp;omega
def Yk6:∀{n:Nat} {s:bj},s∈qW n->s≠[]:=by
 intro n
 induction n using Nat.strongRecOn with
 |_ n ih=>
  intro s hs
  by_cases h:n=0
  ·subst h;rw[UH]at hs;cases hs
  ·rw[UI h]at hs
   rcases kV.1 hs with hs|hs
   ·subst hs
    split
    ·exact JD n
    ·intro hc
     have:=Yjj (b:=n%1000000000000000000) (k:=18) (kf _ (by decide))
     rw[hc]at this;simp at this
   ·exact ih _ (by omega) hs
def u9(l:List bj):List (List V):=l.map fun s=>[.str s]
def Yps{q:V}{Q n n':Nat}{h h':T O}{e:TypeId}(hq:Wn h n q Q)(hQ:Q≠0)(hv:Own 1 e nB h n v (u9 gs))(hh:∀j,j<n->h'.get j=h.get j\/(∃o m c y,v=.slice j o m c y))(hn:n<=n'):Wn h' n' q Q:=by
 obtain⟨d,hd⟩:∃d,(aQ Q)[0]?=some d:=by rw[mi hQ];exact⟨_,rfl⟩
 rcases hq with⟨hz,_⟩|⟨i,o,cp,c,ee,rw,rfl,q1,q2,q3,q4⟩
 ·rw[mi hQ]at hz;simp[dg]at hz
 ·refine .inr ⟨i,o,cp,c,ee,rw,rfl,iL q1 hn,?_,q3,q4⟩
  rcases hh i q1 with h1|⟨o',m,c',y,rfl⟩
  ·rw[h1];exact q2
  ·exfalso
   rcases hv with⟨_,⟨_,h1⟩|⟨i',h1,_,_,h2⟩⟩
   ·cases h1
   ·simp only[V.slice.injEq]at h1
    obtain⟨rfl,_⟩:=h1
    rw[q2]at h2
    simp only[au,O.cells.injEq]at h2
    have h3:=q3 0 (by rw[bH,mi hQ];simp)
    rw[Za8 hd,h2.1]at h3
    have:=eI h3
    obtain⟨l,hl,hx⟩:=List.mem_flatten.1 this
    obtain⟨s,_,rfl⟩:=vo.1 hl
    simp at hx
structure QG (hB:T O) (nB M:Nat) (m:Nat) (r:T V) (st:St):Prop where
 w:aL nB st.w=[]
 ai:ah hB nB st.h st.n
 ex:∃u v gs,r.get 4=some u/\r.get 6=some v/\rH u=some (aQ m).length/\(m≠0->Wn st.h st.n u m)/\Own 1 9 nB st.h st.n v (u9 gs)/\gs++qW m=qW M
def Yhc{hB:T O}{M m:Nat}{r0:T V}{t:V}(hP:j_ hB nB)(hM:(dk M).length<100000000000)(hm:m<=M)(ht:Wn hB nB t 1000000000000000000)(a5:r.get 5=some t)(hf:Fx [(4,4),(6,9),(24,53)] r0 69 ⟨r,69,[]⟩)(s:QG hB nB M m r sT):
  Code A.C none A.jF ⟨r,69,[]⟩ sT (Rd [(4,4),(6,9),(24,53)] r0 69 (fun k r st=>k<=M/\QG hB nB M k r st) m (fun e r st=>e=.exit 0/\QG hB nB M 0 r st)):=by
 obtain⟨H,n1,W⟩:=sT
 obtain⟨hW,hK,u,v,gs,a4,a6,lu,hu,ho,hg⟩:=s
 simp only at hW hK hu ho
 rw[cn]
 by_cases h0:m=0
 ·subst h0
  rw[qO]at lu
  simp[A.jF,hf,a4,lu]
  exact⟨hW,hK,u,v,gs,by simp[a4],by simp[a6],by rw[qO];exact lu,hu,ho,hg⟩
 ·replace hu:=hu h0
  have lp:0<(aQ m).length:=by rw[mi h0];simp
  have hwl:(aQ m).length<1000000000000:=by
   have h1:=EC (n:=m) (k:=(dk M).length) (oS.2 (Ztd hm))
   unfold wl at h1
   simp at h1
   omega
  have ud:(aQ 1000000000000000000).length<1000000000000:=by rw[JW (by decide) (by decide)];decide
  have wF:gs.length+(qW m).length<=(dk M).length:=by
   rw[<-iJ,hg];exact Ye2
  have ED:=UI h0
  rw[ED,bC]at wF
  simp[A.jF,a4,a5,lu,lp]
  refine av (Zs9 hu (ht.ai hK) (by decide) hwl ud) ?_
  rintro _ h2 n2 k2 ⟨q,rw0,rfl,hq,O3⟩
  have lq:=hq.len
  have lr:=O3.len
  rw[bH]at lq lr
  obtain⟨R,hR⟩:∃R,m%1000000000000000000=R:=⟨_,rfl⟩
  obtain⟨Q,hQ⟩:∃Q,m/1000000000000000000=Q:=⟨_,rfl⟩
  rw[hR]at lr O3 ED
  rw[hQ]at lq hq ED wF
  have kk:=hK.trans k2
  have yb:=hP.ai kk
  have app:∀(h3:T O) (n3:Nat) (W3:List Nat) (g:bj),ah h2 n2 h3 n3->aL nB W3=[]->g=(if Q=0 then aq m else Zip R 18)->
    ∃v' h' w',tf ⟨h3.set n3 (.cells [.str g] 9 true),n3+1,W3⟩ 1 16 9 v (.slice n3 0 1 (some 1) 1)=some (v',⟨h',n3+1+1,w'⟩)/\aL nB w'=[]/\ah hB nB h' (n3+1+1)/\(Q≠0->Wn h' (n3+1+1) q Q)/\Own 1 9 nB h' (n3+1+1) v' (u9 (gs++[g]))/\(gs++[g])++qW Q=qW M:=by
   intro h3 n3 W3 g k3 JZ oB
   have kk3:=kk.trans k3
   have gW:=kk3.le
   have Eu:=(ho.ai (k2.trans k3)).ai (aO ah.refl (.cells [.str g] 9 true))
   obtain⟨v',h',w',e1,e2,e3,e4,e5⟩:=Bj (x:=[.str g]) (u:=.slice n3 0 1 (some 1) 1) (bytes:=16) (w:=W3) Eu (by omega) (by decide) rfl (by simp[oL,St.row,aK]) (by simp[u9];omega)
   refine⟨v',h',w',e1,by rw[e2];exact JZ,(kk3.trans (aO ah.refl _)).then e3,fun CW=>?_,by simpa[u9]using e5,by rw[oB,<-hg,ED,rB];rfl⟩
   have hq3:=(hq.ai k3).ai (aO ah.refl (.cells [.str g] 9 true))
   refine Yps hq3 CW Eu (fun j hj=>?_) (xS _)
   rcases e4 j with h1|h1|h1
   ·exact .inl h1
   ·omega
   ·exact .inr h1
  by_cases J3:R=0
  ·have CW:Q≠0:=by omega
   have lqp:0<(aQ Q).length:=by rw[mi CW];simp
   have zeB:(0:Int)<((aQ Q).length:Int):=by omega
   have oB:[48,48,48,48,48,48,48,48,48,48,48,48,48,48,48,48,48,48]=(if Q=0 then aq m else Zip R 18):=by rw[aA CW,J3];unfold Zip;rw[sO];rfl
   rw[J3,qO]at lr
   simp[lq,lr,lqp]
   refine av (Zr3 (k:=17) (by decide)) ?_
   rintro _ h3 n3 k3 rfl
   obtain⟨v',h',w',e1,e2,e3,e4,e5,e6⟩:=app h3 n3 W _ k3 hW oB
   simp[hf,a6,iF,aj,e1]
   exact⟨Q,by omega,by omega,⟨e2,e3,q,v',_,by simp,by simp,lq,e4,e5,e6⟩⟩
  ·have hRw:aQ R=[R]:=JW (by unfold B;omega) J3
   obtain⟨i,o,c,e,wr,p1,p2,p3,p4⟩:=O3.at (Za8 (l:=aQ R) (j:=0) (n:=R) (by rw[hRw];rfl))
   rw[hRw]at lr
   have lr:rH rw0=some 1:=lr
   have hRd:=Kh J3
   rw[mY]at p4
   by_cases CW:Q=0
   ·have oB:aq R=(if Q=0 then aq m else Zip R 18):=by rw[aR CW];congr 1;omega
    have lqz:(aQ Q).length=0:=by rw[CW,qO];rfl
    rw[lqz]at lq
    simp[lr,p1,p3,p4]
    refine av (Yk8 (x:=R) (by omega) yb) ?_
    rintro _ h3 n3 k3 rfl
    obtain⟨v',h',w',e1,e2,e3,e4,e5,e6⟩:=app h3 n3 W _ k3 hW oB
    simp[hf,a6,lq,aj,e1]
    exact⟨Q,by omega,by omega,⟨e2,e3,q,v',_,by simp,by simp,by rw[lqz];exact lq,e4,e5,e6⟩⟩
   ·have lqp:0<(aQ Q).length:=by rw[mi CW];simp
    have zeB:(0:Int)<((aQ Q).length:Int):=by omega
    have zfS:(dk R).length<=18:=oS.1 (by omega)
    have oB:List.replicate (18-(aq R).length) 48++aq R=(if Q=0 then aq m else Zip R 18):=by rw[aA CW,hRd];rfl
    have hs:(18:Int)-((aq R).length:Int)=((18-(aq R).length:Nat):Int):=by rw[hRd];omega
    have yD:¬(9223372036854775807:Int)<(((List.replicate (18-(aq R).length) (48:UInt8)).length+(aq R).length:Nat):Int):=by rw[List.length_replicate,hRd];omega
    simp[lr,p1,p3,p4]
    refine av (Yk8 (x:=R) (by omega) yb) ?_
    rintro _ h3 n3 k3 rfl
    generalize aq R=S at*
    simp(disch:=omega) [lq,lqp,hs]
    refine av (Zr3 (k:=18-S.length) (by omega)) ?_
    rintro _ h4 n4 k4 rfl
    obtain⟨v',h',w',e1,e2,e3,e4,e5,e6⟩:=app h4 n4 W _ (k3.trans k4) hW oB
    generalize List.replicate (18-S.length) (48:UInt8)=Z at*
    have dT:IntKind.max .i64=9223372036854775807:=rfl
    have zeC:¬(9223372036854775807:Int)<(Z.length:Int)+(S.length:Int):=by omega
    simp[hf,a6,iF,dT,zeC,aj,e1]
    exact⟨Q,by omega,by omega,⟨e2,e3,q,v',_,by simp,by simp,lq,e4,e5,e6⟩⟩
structure QH (hb:T O) (n0 b:Nat) (gs:List bj) (pre:bj) (k:Nat) (r:T V) (st:St):Prop where
 hk:k<=gs.length
 r11:r.get 11=some (.int .i64 ((k:Int)-1))
 w:aL n0 st.w=[]
 QD:∀i,i<b->st.h.get i=hb.get i
 bd:Bd st.h st.n b (pre++(gs.drop k).reverse.flatten)
def Yjc(gs:List bj)(k:Nat):gs.reverse.flatten=(gs.drop k).reverse.flatten++(gs.take k).reverse.flatten:=by
 conv=>lhs;rw[<-AO k gs]
 rw[List.reverse_append,List.flatten_append]
def Yg9{j:Nat}{s:bj}(h:gs[j]?=some s):(u9 gs).flatten[j]?=some (.str s):=by
 have:∀gs:List bj,(u9 gs).flatten=gs.map V.str:=by
  intro gs
  induction gs with
  |nil=>rfl
  |cons a gs ih=>show V.str a::(u9 gs).flatten=_;rw[ih];rfl
 rw[this,jT,h];rfl
def Yhb{hb:T O}{nB n0 b k:Nat}{gs:List bj}{pre:bj}{v:V}{r r0:T V}{sT:St}(wj:n0<=b)(hl:pre.length+gs.reverse.flatten.length<1000000000000)(wF:gs.length<1000000000000)(cv:∀s∈gs,s≠[])(ho:Own 1 9 nB hb b v (u9 gs))(a6:r.get 6=some v)(JN:r.get 10=some (.ptr b 0))(hf:Fx [(11,11),(59,67)] r0 69 ⟨r,69,[]⟩)(s:QH hb n0 b gs pre k r sT):
  Code A.C none A.jE ⟨r,69,[]⟩ sT (Rd [(11,11),(59,67)] r0 69 (QH hb n0 b gs pre) k (fun e r st=>e=.exit 2/\QH hb n0 b gs pre 0 r st)):=by
 obtain⟨H,n1,W⟩:=sT
 obtain⟨hk,Bn,hW,hO,MK⟩:=s
 simp only at hW hO MK
 rw[cn]
 cases k with
 |zero=>
  have QI:r.get 11=some (.int .i64 (-1)):=Bn
  simp[A.jE,hf,QI]
  exact⟨hk,by simp[QI],hW,hO,MK⟩
 |succ j=>
  have e1:((j+1:Nat):Int)-1=(j:Int):=by omega
  rw[e1]at Bn
  obtain⟨g,hg⟩:∃g,gs[j]?=some g:=⟨_,Yv8 (by omega)⟩
  have CD:=Yg9 hg
  have lv:=ho.len
  have lg:(u9 gs).length=gs.length:=by simp[u9]
  rw[lg]at lv
  have TV:(j:Int)<(gs.length:Int):=by omega
  rcases ho with⟨_,⟨h1,_⟩|⟨i,rfl,h2,h3,h4⟩⟩
  ·exfalso
   have:gs=[]:=by simpa[u9]using h1
   subst this;simp at hk
  ·have zgc:=(hO i h3).trans h4
   have Kj:(gs.drop j).reverse.flatten=(gs.drop (j+1)).reverse.flatten++g:=by
    have:gs.drop j=g::gs.drop (j+1):=by
     rw[IC (by omega)]
     congr 1
     rw[Yv8 (by omega)]at hg
     simpa using hg
    rw[this,List.reverse_cons,List.flatten_append];simp
   have zeD:=congrArg List.length (Yjc gs j)
   rw[Kj,iJ,iJ]at zeD
   simp[A.jE,a6,JN,Bn,zgc,CD,TV,lg]
   refine A6 (Ybn wj MK (cv g (eI hg)) (by rw[iJ];omega)) ?_
   rintro _ ⟨H2,n2,W2⟩ ⟨hn,dX,vV,pN⟩
   simp only at hn dX vV pN
   subst hn
   simp(disch:=first|(simp;done)|omega|(simp only[bH,cy,bC];omega)|rfl) [hf,Bn]
   refine⟨j,by omega,by omega,by simp,by rw[dX,hW],fun i hi=>(vV i hi).trans (hO i hi),?_⟩
   rw[Kj,<-rB];exact pN
def Yb6{hb:T O}{n0:Nat}{pre:bj}(wj:n0<=b)(hl:pre.length+gs.reverse.flatten.length<1000000000000)(wF:gs.length<1000000000000)(cv:∀s∈gs,s≠[])(UJ:pre++gs.reverse.flatten≠[])(ho:Own 1 9 nB hb b v (u9 gs))(a6:r.get 6=some v)(JN:r.get 10=some (.ptr b 0))
  (hW:aL n0 sT.w=[]) (hO:∀i,i<b->sT.h.get i=hb.get i) (MK:Bd sT.h sT.n b pre):
  Code A.C none A.qV ⟨r,69,[]⟩ sT (fun e fr st=>e=.ret/\∃r',fr=⟨r',69,[]⟩/\r'.get 2=some (.str (pre++gs.reverse.flatten))/\aL n0 st.w=[]/\(∀i,i<b->st.h.get i=hb.get i)/\b<=st.n):=by
 obtain⟨H,n1,W⟩:=sT
 simp only at hW hO MK
 rw[cn]
 have lv:=ho.len
 rw[show (u9 gs).length=gs.length by simp[u9]]at lv
 simp(disch:=omega) [A.qV,a6,lv]
 refine Zal [(11,11),(59,67)] (fun e r st=>e=.exit 2/\QH hb n0 b gs pre 0 r st) (QH hb n0 b gs pre) gs.length ?_ ?_ ?_
 ·exact⟨Yv5 _,by simp,hW,hO,by simpa using MK⟩
 ·intro k r' st' hr hf J
  exact Yhb wj hl wF cv ho (by rw[hr 6 (by decide)];simp[a6]) (by rw[hr 10 (by decide)];simp[JN]) hf J
 ·rintro e r' ⟨H2,n2,W2⟩ hr ⟨rfl,hk,_,dX,vV,pN⟩
  simp only at dX vV pN
  rw[Au]at pN
  have hb3:=pN.1
  have zeE:r'.get 10=some (.ptr b 0):=by rw[hr 10 (by decide)];simp[JN]
  simp[zeE]
  refine A6 (Yov wj pN UJ (by rw[iJ];omega)) ?_
  rintro _ ⟨H3,n3,W3⟩ ⟨rfl,hn,JZ,P2⟩
  simp only at hn JZ P2
  subst hn
  simp[]
  exact⟨by rw[JZ,dX],fun i hi=>(P2 i hi).trans (vV i hi),by omega⟩
def UK{x:V}{z:Int}{h:T O}{N:Nat}(hx:In h N x z)(hP:j_ h N)(hl:(dk z.natAbs).length<100000000000):Fn A.C 213 [x] h N (fun v h' N'=>v=.str (aU z)):=by
 intro w
 rw[aZ,A.k213 (by simp)]
 rcases id hx with⟨rfl,h1,h2⟩|⟨i0,o0,l0,c0,rfl,hw0,tI⟩
 ·simp[A.b213,aI,a_]
  refine av (Ynu h1 h2 (hP.ai (aO ah.refl _))) ?_
  rintro _ h3 n3 k3 rfl
  simp[Ret]
  exact(aO ah.refl _).trans k3
 ·simp[A.b213,aI,aK,a_]
  refine av (CN (hx.ai (aO ah.refl (.cells [.int .i64 (sgn z),.slice i0 o0 l0 c0 1] 100 true)))) ?_
  rintro _ h1 n1 k1 ⟨u,rfl,hu⟩
  obtain⟨M,hM⟩:∃M,z.natAbs=M:=⟨_,rfl⟩
  rw[hM]at hu hl
  have hM0:M≠0:=by omega
  have lu:=hu.len
  rw[bH]at lu
  have kN:=(aO (ah.refl (h:=h) (n:=N)) (.cells [.int .i64 (sgn z),.slice i0 o0 l0 c0 1] 100 true)).trans k1
  have kT:=aO (ah.refl (h:=h1) (n:=n1)) (.cells [.int .u64 1000000000000000000] 215 true)
  have hT:Wn (h1.set n1 (.cells [.int .u64 1000000000000000000] 215 true)) (n1+1) (.slice n1 0 1 (some 1) 1) 1000000000000000000:=by
   unfold Wn
   rw[JW (by decide) (by decide)]
   exact Sl.row (e:=215) (rw:=true) (L:=1) (by omega) (by simp[dg]) (by simp) (by simp)
  simp[aj]
  generalize gb:h1.set n1 (.cells [.int .u64 1000000000000000000] 215 true)=hB at*
  have R8:=(hP.ai kN).ai kT
  refine Zal [(4,4),(6,9),(24,53)] (fun e r st=>e=.exit 0/\QG hB (n1+1) M 0 r st) (fun k r st=>k<=M/\QG hB (n1+1) M k r st) M ?_ ?_ ?_
  ·exact⟨Yv5 _,by simp[aL],ah.refl,u,.ziA,[],by simp,by simp,lu,fun _=>hu.ai kT,Own.nil,rfl⟩
  ·rintro m r st hr hf ⟨hm,J⟩
   exact Yhc R8 hl hm hT (by rw[hr 5 (by decide)];simp) hf J
  ·rintro e r ⟨H,n2,W⟩ hr ⟨rfl,hW,hK,u2,v,gs,a4,a6,_,_,ho,hg⟩
   rw[UH,AP]at hg
   subst hg
   simp only at hW hK ho
   have gW:=hK.le
   have xE:=kN.le
   have a3:r.get 3=some (.bool (decide (z<0))):=by rw[hr 3 (by decide)];simp
   have kP:=Yn0 hM0
   have wF:(qW M).length<1000000000000:=oe Ye2 (by omega)
   have hdl:(aq M).length<100000000000:=by rw[Kh hM0];exact hl
   have ya:Bd (H.set n2 (.cells [.bO,.ziA] 261 true)) (n2+1) n2 []:=⟨tu _,.bO,.ziA,by rw[T.al,aR rfl],.inl rfl,.inl ⟨rfl,rfl⟩⟩
   by_cases hz:z<0
   ·have Br:aU z=[45]++(qW M).reverse.flatten:=by unfold aU;rw[aR hz,hM,kP];rfl
    simp[a3,hz]
    refine A6 (Ybn (n0:=n1+1) gW ya (t:=[45]) (by decide) (by decide)) ?_
    rintro _ ⟨H2,n3,W2⟩ ⟨hn,dX,vV,pN⟩
    simp only at hn dX vV pN
    subst hn
    simp[]
    refine nc (Yb6 (nB:=n1+1) (n0:=n1+1) (b:=n2) (hb:=H) (gs:=qW M) (pre:=[45]) (v:=v) gW (by rw[kP];simp;omega) wF (fun s hs=>Yk6 hs) (by simp) ho (by simp[a6]) (by simp) (by rw[dX,hW]) (fun i hi=>by rw[vV i hi,T.al,aA (by omega)]) pN) ?_
    rintro e fr ⟨H6,n6,W6⟩ ⟨rfl,r6,rfl,g2,g3,g4,g5⟩
    simp only at g3 g4 g5
    have hW6:=MB (show N<=n1+1 by omega) g3
    simp[g2,Ret,hW6,Br]
    exact⟨by omega,fun i hi=>by rw[g4 i (by omega),hK.get i (by omega),<-gb,T.al,aA (by omega),kN.get i hi]⟩
   ·have Br:aU z=[]++(qW M).reverse.flatten:=by unfold aU;rw[aA hz,hM,kP];rfl
    simp[a3,hz]
    refine nc (Yb6 (nB:=n1+1) (n0:=n1+1) (b:=n2) (hb:=H) (gs:=qW M) (pre:=[]) (v:=v) gW (by rw[kP];simp;omega) wF (fun s hs=>Yk6 hs) (by rw[List.nil_append,kP];exact JD M) ho (by simp[a6]) (by simp) hW (fun i hi=>by rw[T.al,aA (by omega)]) ya) ?_
    rintro e fr ⟨H6,n6,W6⟩ ⟨rfl,r6,rfl,g2,g3,g4,g5⟩
    simp only at g3 g4 g5
    have hW6:=MB (show N<=n1+1 by omega) g3
    simp[g2,Ret,hW6,Br]
    exact⟨by omega,fun i hi=>by rw[g4 i (by omega),hK.get i (by omega),<-gb,T.al,aA (by omega),kN.get i hi]⟩
variable {N:Nat} {a b:Int} {h:T O} {x:V}
def A.b74:=A.q Tryz.f74
def A.k74:=@A.kk 74 6 [.cell 2 (some 4)] A.b74 (by kernel_rfl) rfl
def A.b66:=A.q Tryz.f66
def A.k66:=@A.kk 66 6 [.cell 2 (some 4)] A.b66 (by kernel_rfl) rfl
def A.b149:=A.q Tryz.f149
def A.k149:=@A.kk 149 13 [.tmp 2] A.b149 (by kernel_rfl) rfl
def A.Kk:=A.q Tryz.f138
def A.mH:=A.qt A.Kk [] [] [1,1,1]
def A.ib:=(fun y0=>A.qt A.Kk [] [([1,1,1],y0)] [1,1]) A.mH
def A.b138:=(fun y0=>A.qt A.Kk [] [([1,1],y0)] []) A.ib
def A.k138:=@A.kk 138 34 [.cell 4 (some 4)] A.b138 (by kernel_rfl) rfl
def Fc(h:T O)(N:Nat)(x:V)(q:Rat):Prop:=∃n1 u1 n2 u2,x=.agg [.int .i64 n1,u1,.int .i64 n2,u2]/\In h N (.agg [.int .i64 n1,u1]) q.num/\In h N (.agg [.int .i64 n2,u2]) (q.den:Nat)
def Fc.ai{h':T O}{N':Nat}{q:Rat}(s:Fc h N x q)(k:ah h N h' N'):Fc h' N' x q:=by
 obtain⟨n1,u1,n2,u2,rfl,s1,s2⟩:=s
 exact⟨n1,u1,n2,u2,rfl,s1.ai k,s2.ai k⟩
def Zaj{n:Int}{u:V}{z:Int}(s:In h N (.agg [.int .i64 n,u]) z):V.one u=true:=by
 obtain⟨n',u',e,h1⟩:=s.cells
 simp at e
 rw[e.2];exact h1
def Zp8{z:Int}(hx:In h N x z):Fn A.C 74 [x] h N (fun v h' N'=>Fc h' N' v (z:Rat)):=by
 intro w
 rw[aZ,A.k74 (by simp)]
 obtain⟨n,u,rfl,hu⟩:=hx.cells
 have nL:=hu
 unfold V.one at nL
 simp[A.b74,aI,aK,nL]
 refine av JU ?_
 rintro _ h1 n1 k1 rfl
 have xE:=k1.le
 have g0:=k1.get (N+1) (by omega)
 simp at g0
 simp[aI,aK,aj,bM,g0,nL,b_.chk,Ret]
 have kk:=(((aO (aO ah.refl (.cells [.int .i64 n,u] 100 true)) (.cells [.int .i64 0,.ziA,.int .i64 0,.ziA] 102 true)).trans k1).set (h:=h) (n:=N) (i:=N+1) (o:=.cells [.int .i64 n,u,.int .i64 1,.ziA] 102 true) (by omega))
 refine⟨?_,kk,n,u,1,.ziA,rfl,?_,?_⟩
 ·split<;>simp[aL]
 ·exact hx.ai kk
 ·exact In.small (by decide) (by decide)
def BI{z:Int}(h1: -9223372036854775808<=z)(h2:z<9223372036854775808){h:T O}{N:Nat}:Fn A.C 66 [.int .i64 z] h N (fun v h' N'=>Fc h' N' v (z:Rat)):=by
 intro w
 rw[aZ,A.k66 (by simp)]
 simp[A.b66]
 refine av JU ?_
 rintro _ h3 n3 k3 rfl
 simp[]
 refine av (Zp8 (In.small h1 h2)) ?_
 rintro _ h4 n4 k4 ⟨n1,u1,n2,u2,rfl,s1,s2⟩
 have xE:=k3.le
 have uU:=k4.le
 have g0:=(k4.get N (by omega)).trans (k3.get N (by omega))
 simp at g0
 have o1:=Zaj s1
 have o2:=Zaj s2
 unfold V.one at o1 o2
 simp[aI,aK,aj,bM,g0,o1,o2,Ret]
 have kk:=(((aO (ah.refl (h:=h) (n:=N)) (.cells [.int .i64 0,.ziA,.int .i64 0,.ziA] 102 true)).trans k3).trans k4).set (h:=h) (n:=N) (i:=N) (o:=.cells [.int .i64 n1,u1,.int .i64 n2,u2] 102 true) (by omega)
 have g1:=(k4.get N (by omega)).trans (k3.get N (by omega))
 rw[T.al,aR rfl]at g1
 have hn:∀x∈[V.int .i64 0,V.ziA,V.int .i64 0,V.ziA],∀m,x≠.int .u64 m:=by
  intro x hx m hc
  simp at hx
  rcases hx with rfl|rfl|rfl|rfl<;>cases hc
 exact⟨kk,n1,u1,n2,u2,rfl,s1.ay g1 hn rfl,s2.ay g1 hn rfl⟩
def nu0:∀x∈[V.int .i64 0,V.ziA,V.int .i64 0,V.ziA],∀m,x≠.int .u64 m:=by
 intro x hx m hc
 simp at hx
 rcases hx with rfl|rfl|rfl|rfl<;>cases hc
structure UL (H:T O) (N:Nat) (q:Rat) (st:St):Prop where
 w:aL N st.w=[]
 old:∀i,i<N->st.h.get i=H.get i
 le:N+3<=st.n
 ex:∃n1 u1 n2 u2,st.h.get (N+2)=some (.cells [.int .i64 n1,u1,.int .i64 n2,u2] 102 true)/\Fc st.h st.n (.agg [.int .i64 n1,u1,.int .i64 n2,u2]) q
def Yvf{H:T O}{n:Nat}{W:List Nat}{r:T V}{n1 n2:Int}{u1 u2:V}(hn:N+3<=n)(hW:aL N W=[])(g1:H.get N=some (.cells [.int .i64 n1,u1] 100 true))(g2:H.get (N+1)=some (.cells [.int .i64 n2,u2] 100 true))(g3:H.get (N+2)=some (.cells [.int .i64 0,.ziA,.int .i64 0,.ziA] 102 true))
  (hx:In H n (.agg [.int .i64 n1,u1]) a) (hy:In H n (.agg [.int .i64 n2,u2]) b) (hb:0<b) (la:wl a<10000000000) (lb:wl b<10000000000) (a2:r.get 2=some (.ptr N 0)) (a3:r.get 3=some (.ptr (N+1) 0)) (a4:r.get 4=some (.ptr (N+2) 0)):
  Code A.C none A.mH ⟨r,34,[]⟩ ⟨H,n,W⟩ (fun e fr st=>e=.ret/\∃r',fr=⟨r',34,[]⟩/\r'.get 4=some (.ptr (N+2) 0)/\UL H N (Rat.divInt a b) st):=by
 rw[cn]
 have o1:=Zaj hx
 have o2:=Zaj hy
 unfold V.one at o1 o2
 simp[A.mH,a2,a3,g1,g2,aI,aK]
 refine av (Yk7 hx hy la lb) ?_
 rintro _ h1 m1 k1 hg
 obtain⟨ng,ug,rfl,hug⟩:=hg.cells
 have QJ:=hug
 unfold V.one at QJ
 have xE:=k1.le
 have g1':=(k1.get N (by omega)).trans g1
 have UM:=(k1.get (N+1) (by omega)).trans g2
 have g3':=(k1.get (N+2) (by omega)).trans g3
 have d1:¬N=m1:=by omega
 have d2:¬N+1=m1:=by omega
 have d3:¬N+2=m1:=by omega
 have e1:N<m1+1:=by omega
 have e2:N+1<m1+1:=by omega
 have e3:N+2<m1+1:=by omega
 have ED:0<Int.gcd a b:=Int.gcd_pos_of_ne_zero_right a (by omega)
 obtain⟨G,hG⟩:∃G,Int.gcd a b=G:=⟨_,rfl⟩
 rw[hG]at ED hg
 have hGb:(G:Int)<=b:=by
  rw[<-hG]
  exact Int.le_of_dvd hb (Int.gcd_dvd_right ..)
 have lg:wl (G:Int)<10000000000:=oe (MH (by omega)) lb
 have kS:ah h1 m1 ((h1.set m1 (.cells [.int .i64 0,.ziA] 100 true)).set m1 (.cells [.int .i64 ng,ug] 100 true)) (m1+1):=(aO ah.refl _).set (Yv5 _)
 simp[a2,g1',d1,aI,aK,aj,bM,QJ,e1]
 refine av (Ykr ((hx.ai k1).ai kS) (hg.ai kS) (by omega) la lg) ?_
 rintro _ h2 m2 k2 rR
 obtain⟨n3,u3,rfl,ML⟩:=rR.cells
 have o3:=ML
 unfold V.one at o3
 have kT:=(k1.trans kS).trans k2
 have zgl:=kT.le
 have f1:=(kT.get N (by omega)).trans g1
 have f2:=(kT.get (N+1) (by omega)).trans g2
 have f3:=(kT.get (N+2) (by omega)).trans g3
 have f5:=k2.get m1 (by omega)
 rw[T.al,aR rfl]at f5
 have zgC:=k2.le
 have e4:N+1<m2:=by omega
 have e5:m1<m2:=by omega
 have e6:N+2<m2:=by omega
 simp[a3,f2,f5,aI,aK,e4,e5]
 refine av (Ykr ((hy.ai kT)) ((hg.ai kS).ai k2) (by omega) lb lg) ?_
 rintro _ h3 m3 k3 kK
 obtain⟨n4,u4,rfl,QE⟩:=kK.cells
 have o4:=QE
 unfold V.one at o4
 have kU:=kT.trans k3
 have uU:=kU.le
 have f6:=(kU.get (N+2) (by omega)).trans g3
 have e7:N+2<m3:=by omega
 simp[a4,f6,aj,bM,o3,o4,e7,b_.chk]
 have zeF:(Rat.divInt a b).num=a/(G:Int):=by
  rw[Rat.num_divInt,Int.sign_eq_one_of_pos hb,Int.one_mul,Int.gcd_comm,hG]
 have zeG:((Rat.divInt a b).den:Int)=b/(G:Int):=by
  rw[Rat.den_divInt,aA (by omega),Int.gcd_comm,hG,Int.natCast_ediv,Int.natAbs_of_nonneg (by omega)]
 have fj:¬N+2<N:=by omega
 have AE:¬m1<N:=by omega
 refine⟨by simp[aL,hW,fj,AE],fun i hi=>?_,by show N+3<=m3;omega,n3,u3,n4,u4,by show T.get (T.set _ _ _) _=_;rw[T.al,aR rfl],n3,u3,n4,u4,rfl,?_,?_⟩
 ·show T.get (T.set _ _ _) _=_
  rw[T.al,aA (by omega),kU.get i (by omega)]
 ·rw[zeF];exact(rR.ai k3).ay f6 nu0 rfl
 ·rw[zeG];exact kK.ay f6 nu0 rfl
def Yve{H:T O}{n:Nat}{W:List Nat}{r:T V}{n1 n2:Int}{u1 u2:V}(hn:N+3<=n)(hW:aL N W=[])(g1:H.get N=some (.cells [.int .i64 n1,u1] 100 true))(g2:H.get (N+1)=some (.cells [.int .i64 n2,u2] 100 true))(g3:H.get (N+2)=some (.cells [.int .i64 0,.ziA,.int .i64 0,.ziA] 102 true))
  (hx:In H n (.agg [.int .i64 n1,u1]) a) (hy:In H n (.agg [.int .i64 n2,u2]) b) (hb:0<b) (la:wl a<10000000000) (lb:wl b<10000000000) (a2:r.get 2=some (.ptr N 0)) (a3:r.get 3=some (.ptr (N+1) 0)) (a4:r.get 4=some (.ptr (N+2) 0)):
  Code A.C none A.ib ⟨r,34,[]⟩ ⟨H,n,W⟩ (fun e fr st=>e=.ret/\∃r',fr=⟨r',34,[]⟩/\r'.get 4=some (.ptr (N+2) 0)/\UL H N (Rat.divInt a b) st):=by
 rw[cn]
 have o1:=Zaj hx
 have o2:=Zaj hy
 unfold V.one at o1 o2
 have fin:∀r':T V,r'.get 2=some (.ptr N 0)->r'.get 3=some (.ptr (N+1) 0)->r'.get 4=some (.ptr (N+2) 0)->Run A.C [] (fx (A.C.code none A.mH ⟨r',34,[]⟩ ⟨H,n,W⟩)) (exQ (fun e fr st=>e=.ret/\∃r',fr=⟨r',34,[]⟩/\r'.get 4=some (.ptr (N+2) 0)/\UL H N (Rat.divInt a b) st)):=fun r' b2 b3 b4=>cn.1 (Yvf hn hW g1 g2 g3 hx hy hb la lb b2 b3 b4)
 have tK:=hy
 rcases tK with⟨e0,_,_⟩|⟨i,o,l,c,e0,_,_⟩
 ·simp only[V.agg.injEq,iA,V.int.injEq,true_and,and_true]at e0
  obtain⟨rfl,rfl⟩:=e0
  by_cases c1:n2=1
  ·subst c1
   simp[A.ib,a2,a3,a4,g1,g2,g3,aI,aK,aj,a_,bM,o1]
   have fj:¬N+2<N:=by omega
   refine⟨by simp[aL,hW,fj],fun i hi=>?_,hn,n1,u1,1,.ziA,by show T.get (T.set _ _ _) _=_;rw[T.al,aR rfl],n1,u1,1,.ziA,rfl,?_,?_⟩
   ·show T.get (T.set _ _ _) _=_
    rw[T.al,aA (by omega)]
   ·rw[show (Rat.divInt a 1).num=a by rw[Rat.num_divInt];simp];exact hx.ay g3 nu0 rfl
   ·rw[show ((Rat.divInt a 1).den:Int)=1 by rw[Rat.den_divInt];simp];exact In.small (by decide) (by decide)
  ·simp[A.ib,a3,g2,aI,a_,c1]
   exact fin _ (by simp[a2]) (by simp[a3]) (by simp[a4])
 ·simp only[V.agg.injEq,iA,V.int.injEq,true_and,and_true]at e0
  obtain⟨rfl,rfl⟩:=e0
  simp[A.ib,a3,g2,aI,a_]
  exact fin _ (by simp[a2]) (by simp[a3]) (by simp[a4])
def Zvg{y:V}(hx:In h N x a)(hy:In h N y b)(hb:b≠0)(la:wl a<10000000000)(lb:wl b<10000000000):Fn A.C 138 [x,y] h N (fun v h' n'=>Fc h' n' v (Rat.divInt a b)):=by
 intro w
 rw[aZ,A.k138 (by simp)]
 obtain⟨n1,u1,rfl,zp⟩:=hx.cells
 obtain⟨n2,u2,rfl,fi⟩:=hy.cells
 have o1:=zp
 have o2:=fi
 unfold V.one at o1 o2
 have kB:ah h N (((h.set N (.cells [.int .i64 n1,u1] 100 true)).set (N+1) (.cells [.int .i64 n2,u2] 100 true)).set (N+2) (.cells [.int .i64 0,.ziA,.int .i64 0,.ziA] 102 true)) (N+3):=aO (aO (aO ah.refl _) _) _
 have done:∀(r:T V) (h1:T O) (m:Nat) (W1:List Nat) (a' b' gw fj:Int) (u1' u2':V),N+3<=m->aL N W1=[]->(∀i,i<N->h1.get i=h.get i)->h1.get N=some (.cells [.int .i64 gw,u1'] 100 true)->h1.get (N+1)=some (.cells [.int .i64 fj,u2'] 100 true)->h1.get (N+2)=some (.cells [.int .i64 0,.ziA,.int .i64 0,.ziA] 102 true)->
   In h1 m (.agg [.int .i64 gw,u1']) a'->In h1 m (.agg [.int .i64 fj,u2']) b'->0<b'->wl a'<10000000000->wl b'<10000000000->Rat.divInt a' b'=Rat.divInt a b->r.get 2=some (.ptr N 0)->r.get 3=some (.ptr (N+1) 0)->r.get 4=some (.ptr (N+2) 0)->
   Run A.C [.fin [.cell 4 (some 4)] ⟨h,N,w⟩] (fx (A.C.code none A.ib ⟨r,34,[]⟩ ⟨h1,m,W1⟩)) (Cv (Ret (fun v h' n'=>Fc h' n' v (Rat.divInt a b)) h N w)):=by
  intro r h1 m W1 a' b' gw fj u1' u2' hm Tw hO g1 g2 g3 i1 i2 vL Ez Ux hq b2 b3 b4
  refine nc (Yve hm Tw g1 g2 g3 i1 i2 vL Ez Ux b2 b3 b4) ?_
  rintro e fr ⟨H6,n6,W6⟩ ⟨rfl,r6,rfl,c4,q1,q2,q3,m1,v1,m2,v2,q4,q5⟩
  simp only at q1 q2 q3 q4 q5
  rw[hq]at q5
  simp[c4,q4,aI,aK,Ret,q1]
  exact⟨⟨by omega,fun i hi=>(q2 i hi).trans (hO i hi)⟩,q5⟩
 simp[A.b138,aI,aK,o1,o2]
 generalize gb:((h.set N (.cells [.int .i64 n1,u1] 100 true)).set (N+1) (.cells [.int .i64 n2,u2] 100 true)).set (N+2) (.cells [.int .i64 0,.ziA,.int .i64 0,.ziA] 102 true)=hB at*
 have b1:hB.get N=some (.cells [.int .i64 n1,u1] 100 true):=by rw[<-gb];simp
 have b2:hB.get (N+1)=some (.cells [.int .i64 n2,u2] 100 true):=by rw[<-gb];simp
 have b3:hB.get (N+2)=some (.cells [.int .i64 0,.ziA,.int .i64 0,.ziA] 102 true):=by rw[<-gb];simp
 refine av (JV (hy.ai kB)) ?_
 rintro _ h1 m1 k1 rfl
 have kk:=kB.trans k1
 have xE:=kk.le
 have fC:=k1.le
 have f1:=(k1.get N (by omega)).trans b1
 have f2:=(k1.get (N+1) (by omega)).trans b2
 have f3:=(k1.get (N+2) (by omega)).trans b3
 by_cases hbn:b<0
 ·have s1:sg3 b= -1:=by unfold sg3;rw[aR hbn]
  have l1:N<m1:=by omega
  simp[s1,f1,l1,aI,aK]
  refine av (MC (hx.ai kk) (by omega)) ?_
  rintro _ h2 m2 k2 q1
  obtain⟨n3,u3,rfl,ML⟩:=q1.cells
  have o3:=ML
  unfold V.one at o3
  have zgl:=k2.le
  have f4:=(k2.get N (by omega)).trans f1
  have f5:=(k2.get (N+1) (by omega)).trans f2
  have f6:=(k2.get (N+2) (by omega)).trans f3
  have l2:N+1<m2:=by omega
  simp[f5,l2,aI,aK]
  refine av (MC ((hy.ai kk).ai k2) (by omega)) ?_
  rintro _ h3 m3 k3 q2
  obtain⟨n4,u4,rfl,QE⟩:=q2.cells
  have o4:=QE
  unfold V.one at o4
  have zgC:=k3.le
  have f7:=(k3.get N (by omega)).trans f4
  have f8:=(k3.get (N+1) (by omega)).trans f5
  have f9:=(k3.get (N+2) (by omega)).trans f6
  have l3:N+1<m3:=by omega
  have l4:N<m3:=by omega
  simp[f7,f8,l3,l4,aj,bM,o3,o4,b_.chk]
  have i1:=(q1.ai k3).ay (c1:=[.int .i64 n3,u3]) (e1:=100) (w1:=true) f7 hx.nu rfl
  have i2:=q2.ay (c1:=[.int .i64 n3,u3]) (e1:=100) (w1:=true) f7 hx.nu rfl
  have f8':((h3.set N (.cells [.int .i64 n3,u3] 100 true)):T O).get (N+1)=some (.cells [.int .i64 n2,u2] 100 true):=by rw[T.al,aA (by omega)];exact f8
  have j1:=i1.ay (c1:=[.int .i64 n4,u4]) (e1:=100) (w1:=true) f8' hy.nu rfl
  have j2:=i2.ay (c1:=[.int .i64 n4,u4]) (e1:=100) (w1:=true) f8' hy.nu rfl
  have l5:¬N+1<N:=by omega
  exact done _ _ _ _ (-a) (-b) n3 n4 u3 u4 (by omega) (by simp[aL,l5]) (fun i hi=>by rw[T.al,aA (by omega),T.al,aA (by omega),k3.get i (by omega),k2.get i (by omega),kk.get i hi]) (by rw[T.al,aA (by omega),T.al,aR rfl]) (by rw[T.al,aR rfl]) (by rw[T.al,aA (by omega),T.al,aA (by omega)];exact f9) j1 j2 (by omega) (by rw[Qe];exact la) (by rw[Qe];exact lb) (Rat.neg_divInt_neg a b) (by simp) (by simp) (by simp)
 ·have s1:sg3 b=1:=by unfold sg3;rw[aA hbn,aA hb]
  simp[s1]
  exact done _ _ _ _ a b n1 n2 u1 u2 (by omega) (by simp[aL]) (fun i hi=>kk.get i hi) f1 f2 f3 (hx.ai kk) (hy.ai kk) (by omega) la lb rfl (by simp) (by simp) (by simp)
end
end Go.Mx
