/-strings-/
import Derived.Test.YtnkdakmfipgidaaGreatDoorNcA
set_option linter.all false
set_option maxHeartbeats 4000000
namespace Go.Mx
noncomputable section
open Go Go.Proofs
set_option maxRecDepth 1000000
def Ye8:List UInt8:=List.replicate 128 32
def Ye7:List UInt8:=List.replicate 128 45
def Ynz:List UInt8:=List.replicate 128 61
def Yuz:List UInt8:=List.replicate 64 9
def Ks:List UInt8:=List.replicate 64 48
def A.FA:bW:=.seq (sr [c1 111 243 9,mv 112 7,bi 113 .lss 111 112] (cd 113 (.skip) (.exit 3))) (.block 4 (sr [mv 114 7,c1 115 243 9,bi 116 .sub 114 115,c1 117 243 9,mv 118 8,ge 119 (.mn [tq 116,tq 117,tq 118]),mv 10 119] (.fY [c1 120 219 9,mv 121 10,ge 122 (.cB (tq 120) none (some (tq 121))),c2 123 218 9 122])))
def A.b217:bW:=sr [ge 4 (.m_ (.const (.str [])))] (.seq (sr [mv 11 1] (.block 0 (sr [ei 13 11 0,mv 12 13] (cd 12 (sr [ge 4 (.m_ (.const (.str [])))] (.ret)) (sr [ei 15 11 1,mv 14 15] (cd 14 (sr [mv 16 0,mv 4 16] (.ret)) (.skip))))))) (.seq (sr [mv 17 1,bc 18 .lss 17 0] (cd 18 (.fY [ge 19 (.iZ 9 (.const (.str [115,116,114,105,110,103,115,58,32,110,101,103,97,116,105,118,101,32,82,101,112,101,97,116,32,99,111,117,110,116]))),gn (.stop)]) (.skip))) (sr [mv 21 0,ge 22 (.len 0 (tq 21)),ge 23 (.dB .u64 (tq 22)),mv 24 1,ge 25 (.dB .u64 (tq 24)),c2 26 241 23 25,mv 20 26,xt 27 20 0,xt 28 20 1,mv 5 27,mv 6 28] (.seq (sr [mv 29 5,ge 30 (.bin .gtr (.node []) false (tq 29) (.const (.int .u64 0))),mv 31 30,mh 32 6 31,gz 33 31 (.bin .gtr (.node []) false (tq 32) (.const (.int .u64 9223372036854775807))),pt 34 31 33] (cd 34 (.fY [ge 35 (.iZ 9 (.const (.str [115,116,114,105,110,103,115,58,32,82,101,112,101,97,116,32,111,117,116,112,117,116,32,108,101,110,103,116,104,32,111,118,101,114,102,108,111,119]))),gn (.stop)]) (.skip))) (sr [mv 36 6,ge 37 (.dB .i64 (tq 36)),mv 7 37] (.seq (sr [mv 38 0,ge 39 (.len 0 (tq 38)),ei 40 39 0] (cd 40 (sr [ge 4 (.m_ (.const (.str [])))] (.ret)) (.skip))) (.seq (sr [mv 41 0,ge 42 (.bL (tq 41) (kq 0))] (.block 1 (.seq (sr [ge 44 (.bin .eql (.cL .int) true (tq 42) (.const (.int .u8 32))),mv 43 44] (cd 43 (.skip) (sr [ge 45 (.bin .eql (.cL .int) true (tq 42) (.const (.int .u8 45))),mv 43 45] (cd 43 (.skip) (sr [ge 46 (.bin .eql (.cL .int) true (tq 42) (.const (.int .u8 48))),mv 43 46] (cd 43 (.skip) (sr [ge 47 (.bin .eql (.cL .int) true (tq 42) (.const (.int .u8 61))),mv 43 47] (cd 43 (.skip) (.fY [ge 48 (.bin .eql (.cL .int) true (tq 42) (.const (.int .u8 9))),mv 43 48]))))))))) (cd 43 (.block 2 (sr [mv 50 7,bc 51 .leq 50 128,mv 52 51,mg 53 0 52,gy 54 52 (.call (fq 209) [(.const (.str Ye8)),tq 53]),pf 55 52 54,mv 49 55] (cd 49 (sr [mv 56 7,ge 57 (.cB (.const (.str Ye8)) none (some (tq 56))),mv 4 57] (.ret)) (sr [mv 59 7,bc 60 .leq 59 128,mv 61 60,mg 62 0 61,gy 63 61 (.call (fq 209) [(.const (.str Ye7)),tq 62]),pf 64 61 63,mv 58 64] (cd 58 (sr [mv 65 7,ge 66 (.cB (.const (.str Ye7)) none (some (tq 65))),mv 4 66] (.ret)) (sr [mv 68 7,bc 69 .leq 68 64,mv 70 69,mg 71 0 70,gy 72 70 (.call (fq 209) [(.const (.str Ks)),tq 71]),pf 73 70 72,mv 67 73] (cd 67 (sr [mv 74 7,ge 75 (.cB (.const (.str Ks)) none (some (tq 74))),mv 4 75] (.ret)) (sr [mv 77 7,bc 78 .leq 77 128,mv 79 78,mg 80 0 79,gy 81 79 (.call (fq 209) [(.const (.str Ynz)),tq 80]),pf 82 79 81,mv 76 82] (cd 76 (sr [mv 83 7,ge 84 (.cB (.const (.str Ynz)) none (some (tq 83))),mv 4 84] (.ret)) (sr [mv 86 7,bc 87 .leq 86 64,mv 88 87,mg 89 0 88,gy 90 88 (.call (fq 209) [(.const (.str Yuz)),tq 89]),pf 91 88 90,mv 85 91] (cd 85 (sr [mv 92 7,ge 93 (.cB (.const (.str Yuz)) none (some (tq 92))),mv 4 93] (.ret)) (.skip)))))))))))) (.skip))))) (sr [mv 94 7,mv 8 94] (.seq (sr [mv 95 7,bc 96 .gtr 95 8192] (cd 96 (sr [mv 97 0,ge 98 (.len 0 (tq 97)),ge 99 (.bin .quo (.node []) false (kq 8192) (tq 98)),mv 100 0,ge 101 (.len 0 (tq 100)),bi 102 .mul 99 101,mv 8 102] (sr [mv 103 8,ei 104 103 0] (cd 104 (.fY [mv 105 0,ge 106 (.len 0 (tq 105)),mv 8 106]) (.skip)))) (.skip))) (sr [ge 9 (.alloc [.bJ,.aa] 224)] (sr [mv 107 7,c2 108 242 9 107] (sr [mv 109 0,c2 110 218 9 109] (.seq (.block 3 (.loop A.FA)) (sr [c1 124 219 9,mv 4 124] (.ret)))))))))))))))
def A.k217:=@A.kk 217 125 [.tmp 4] A.b217 (by kernel_rfl) rfl
def A.b241:=A.q Tryz.f241
def A.k241:=@A.kk 241 30 [.tmp 4,.tmp 5] A.b241 (by kernel_rfl) rfl
def Yth{h:T O}{N:Nat}{x y:Nat}(hx:x<18446744073709551616)(hy:y<18446744073709551616):Fn A.C 241 [.int .u64 x,.int .u64 y] h N (fun v' h' N'=>h'=h/\N'=N/\v'=.aV [.int .u64 (cy (x*y):Nat),.int .u64 (bA (x*y):Nat)]):=by intro w;rw[aN,A.k241 (by simp)];simp[A.b241];refine av (OT hx hy) ?_;rintro _ _ _ k1 ⟨rfl,rfl,rfl⟩;simp[ax];exact k1
def Yha{a c:UInt8}{s:aD}{st:St}:A.C.call (.func 209 [] []) [.str (a::s),.str [c]] st=some (.bool (decide (a=c)),st):=by
 have e:(([a]:aD)==[c])=decide (a=c):=by rw[Bool.eq_iff_iff];simp
 have h1:(1:Int)<=(s.length:Int)+1:=by omega
 apply Call.eq;rw[aN,A.k209 (by simp)];have jM:∀st,A.C.call (.func 230 [] []) [.str (a::s),.str [c]] st=some (.bool (decide (a=c)),st):=fun st=>by apply Call.eq;rw[aN,A.k230 (by simp)];simp[A.b230,aB,dP,mP,Al,e,h1]
 simp[A.b209,jM]
def Xa5{st:St}:A.C.call (.func 209 [] []) [.str Ye8,.str [48]] st=some (.bool false,st):=Yha (a:=32) (s:=List.replicate 127 32)
def Xa4{st:St}:A.C.call (.func 209 [] []) [.str Ye7,.str [48]] st=some (.bool false,st):=Yha (a:=45) (s:=List.replicate 127 45)
def Xa3{st:St}:A.C.call (.func 209 [] []) [.str Ks,.str [48]] st=some (.bool true,st):=Yha (a:=48) (s:=List.replicate 63 48)
def Ybg{k:Nat}(h:k<=64):List.take k Ks=List.replicate k 48:=by unfold Ks;rw[List.take_replicate,rj h]
def Ye6:Ks.length=64:=by simp[Ks]
def Zt0{k:Nat}(hk:k<=18){h:T O}{N:Nat}:Fn A.C 217 [.str [48],.int .i64 k] h N (fun v h' N'=>v=.str (List.replicate k 48)):=by
 intro w;rw[aN,A.k217 (by simp)];by_cases c0:k=0
 ·subst c0;simp[A.b217,ax];exact ab.refl
 by_cases c1:k=1
 ·subst c1;simp[A.b217,ax];exact ab.refl
 have c3:¬(k:Int)=1:=by omega
 have e0:bo .u64 (1:Int)=((1:Nat):Int):=Hk (by omega) (by omega);have e1:bo .u64 (k:Int)=(k:Int):=Hk (by omega) (by omega);have c4:¬(k:Int)<0:=by omega
 simp[A.b217,c0,c3,c4,e0,e1];refine av (Yth (x:=1) (y:=k) (by omega) (by omega)) ?_;rintro _ _ _ _ ⟨rfl,rfl,rfl⟩;have g1:cy (1*k)=0:=by unfold cy;omega
 have g2:bA (1*k)=k:=by unfold bA;omega
 have g3:¬(9223372036854775807:Int)<(k:Int):=by omega
 have g4:bo .i64 (k:Int)=(k:Int):=cP (by omega) (by omega);have g7:cW 48=48:=rfl;have g5:(k:Int)<=128:=by omega
 have g6:(k:Int)<=64:=by omega
 rw[g1,g2];simp(disch:=omega) [g3,g4,g5,g6,g7,Xa5,Xa4,Xa3,Al,aB,dP,mP,Ye6,Ybg,ax];exact ab.refl
variable {N b:Nat} {h:T O} {s:aD} {w:List Nat}
def A.b244:bW:=sr [mv 2 0,ge 3 (.px (tq 2)),fa 4 0 3,ld 5 4,ge 6 (.bin .eql (.cL .ptr) true (tq 5) (.const .bJ))] (cd 6 (.fY [mv 7 0,mv 8 0,ge 9 (.LB none (tq 8)),ge 10 (.ext .same [tq 9]),ge 11 (.LB (some (224,2)) (tq 10)),ge 12 (.px (tq 7)),fa 13 0 12,so 13 11]) (sr [mv 14 0,ge 15 (.px (tq 14)),fa 16 0 15,ld 17 16,mv 18 0,ge 19 (.bin .neq (.cL .ptr) false (tq 17) (tq 18))] (cd 19 (.stop) (.skip))))
def A.k244:=@A.kk 244 20 [] A.b244 (by kernel_rfl) rfl
def A.b218:=A.q Tryz.f218
def A.k218:=@A.kk 218 19 [.tmp 4,.tmp 5] A.b218 (by kernel_rfl) rfl
def A.b219:=A.q Tryz.f219
def A.k219:=@A.kk 219 14 [.tmp 2] A.b219 (by kernel_rfl) rfl
def Bd(h:T O)(N b:Nat)(s:aD):Prop:=b<N/\∃p v,h.get b=some (.cells [p,v] 224 true)/\(p=.bJ\/p=.ptr b 0)/\((v=.aa/\s=[])\/∃j,v=.slice j 0 s.length none 1/\b<j/\j<N/\s≠[]/\h.get j=some (.cells (s.map vB) 5 true))
def Ytc{n2:Nat}(ib:n2<=b)(hb:Bd h N b s):Call A.C (.func 244 [] []) [.ptr b 0] ⟨h,N,w⟩ (fun _ st=>st.n=N/\ay n2 st.w=ay n2 w/\(∀i,i<b->st.h.get i=h.get i)/\Bd st.h N b s):=by
 obtain⟨hN,p,v,hr,hp,hv⟩:=hb;have q8:¬b<n2:=by omega
 rw[aN,A.k244 (by simp)];rcases hp with rfl|rfl
 ·simp[A.b244,hr,bh,GD,hN,q8];refine⟨fun i hi hc=>by omega,hN,.ptr b 0,v,?_,.inr rfl,?_⟩
  ·rw[T.ae,ar rfl];rfl
  rcases hv with hv|⟨j,h1,h2,h3,h4,h5⟩
  ·exact .inl hv
  exact .inr ⟨j,h1,h2,h3,h4,by rw[T.ae,ak (by omega)];exact h5⟩
 simp[A.b244,hr,bh];exact⟨hN,.ptr b 0,v,hr,.inr rfl,hv⟩
def Ydy{n0:Nat}{t:aD}(km:n0<=b)(hb:Bd h N b s)(ht:t≠[])(hl:s.length+t.length<1000000000000):Call A.C (.func 218 [] []) [.ptr b 0,.str t] ⟨h,N,w⟩ (fun _ st=>st.n=N+1/\ay n0 st.w=ay n0 w/\(∀i,i<b->st.h.get i=h.get i)/\Bd st.h (N+1) b (s++t)):=by
 rw[aN,A.k218 (by simp)];simp[A.b218];refine AS (Ytc km hb) ?_;rintro _ ⟨H2,n2,W2⟩ ⟨hn,hW,hO,q8⟩;simp only at hn hW hO q8;subst hn;obtain⟨hN,p,v,hr,hp,hv⟩:=q8;have qo:¬t.length=0:=by simpa using ht
 have hc:(t.map vB).length=t.length:=by simp
 have MO:ay n0 W2=[]:=hW;have m1:2*t.length<=281474976710656:=by omega
 have m2:¬281474976710656<2*(s.length+t.length):=by omega
 have m3:¬s.length+t.length<=s.length:=by omega
 have aW:¬b=n2:=by omega
 have ki:¬b<n0:=by omega
 rcases hv with⟨rfl,rfl⟩|⟨j,rfl,h2,h3,h4,h5⟩
 ·simp[-ay,hr,EB,mm,gb,wu,qo,St.alloc,m1,aW,bO,ag];refine⟨OQ (OR (by simp[ay,MO,ki])),fun i hi=>?_,by omega,p,.slice n2 0 t.length none 1,by rw[T.ae,ar rfl],hp,.inr ⟨n2,rfl,hN,by omega,ht,by rw[T.ae,ak (by omega),T.ae,ar rfl];rfl⟩⟩;rw[ak (by omega),ak (by omega)];exact hO i hi
 have mS:¬b=j:=by omega
 have B8:¬j<n0:=by omega
 simp[-ay,hr,EB,mm,gb,wu,qo,St.alloc,St.row,h5,m2,m3,aW,mS,bO,ag];refine⟨OQ (OR (by simp[ay,MO,ki,B8])),fun i hi=>?_,by omega,p,.slice n2 0 (s.length+t.length) none 1,by rw[T.ae,ar rfl],hp,.inr ⟨n2,by simp,hN,by omega,by simp[h4],by rw[T.ae,ak (by omega),T.ae,ar rfl,List.map_append];rfl⟩⟩;rw[ak (by omega),ak (by omega),ak (by omega)];exact hO i hi
def Yp1{α:Type}(c:List α):aL c 0 c.length=some c:=by unfold aL;simp
def Zvm:∀(s:aD),Jp (s.map vB)=some s
 |[]=>rfl
 |c::s=>by
  rw[nI]
  have h1:TG (vB c)=some c:=by
   unfold TG vB cW
   have:=c.toNat_lt
   simp
   omega
  simp only[Jp,h1,Zvm s]
def Ytg{n0:Nat}(km:n0<=b)(hb:Bd h N b s)(hs:s≠[])(hl:s.length<1000000000000):Call A.C (.func 219 [] []) [.ptr b 0] ⟨h,N,w⟩ (fun v st=>v=.str s/\st.n=N/\ay n0 st.w=ay n0 w/\(∀i,i<b->st.h.get i=h.get i)):=by
 obtain⟨hN,p,v,hr,hp,hv⟩:=hb;rw[aN,A.k219 (by simp)];rcases hv with⟨_,rfl⟩|⟨j,rfl,h2,h3,h4,h5⟩
 ·exact absurd rfl hs
 have h0:0<s.length:=List.length_pos_iff.2 hs;have jM:(0:Int)<(s.length:Int):=by omega
 have hm:(s.length:Int)<=9223372036854775807:=by omega
 have ct:aL (s.map vB) 0 s.length=some (s.map vB):=by have:=Yp1 (s.map vB);rw[cG]at this;exact this
 have hbm:=Zvm s;have B8:¬j<n0:=by omega
 simp[A.b219,hr,LU,LV,h0,hm,h5,h3,hN,ct,hbm,B8];exact fun i hi hc=>by omega
variable {b nB:Nat} {gs:List aD} {r:T V} {sT:St} {v:V}
def A.FB:=A.q Tryz.f169
def A.lF:=A.ql A.FB 1 []
def A.lG:=A.ql A.FB 0 []
def A.tg:=(fun x0 x1=>A.qt A.FB [x0,x1] [] [1,1,1,1,1,1,1,1]) A.lG A.lF
def A.b169:=(fun x0 x1 y0=>A.qt A.FB [x0,x1] [([1,1,1,1,1,1,1,1],y0)] []) A.lG A.lF A.tg
def A.k169:=@A.kk 169 69 [.tmp 2] A.b169 (by kernel_rfl) rfl
def th(n:Nat):List aD:=if h:n=0 then [] else (if n/1000000000000000000=0 then an n else jb (n%1000000000000000000) 18)::th (n/1000000000000000000)
termination_by n
decreasing_by omega
def Va:th 0=[]:=by unfold th;simp
def Vb{n:Nat}(h:n≠0):th n=(if n/1000000000000000000=0 then an n else jb (n%1000000000000000000) 18)::th (n/1000000000000000000):=by
 conv=>lhs;unfold th
 rw[dif_neg h]
def Yr9:∀{n:Nat},n≠0->(th n).reverse.flatten=an n:=by
 intro n;induction n using Nat.strongRecOn with
 |_ n ih=>
  intro h;rw[Vb h];by_cases h0:n/1000000000000000000=0
  ·rw[ar h0,h0,Va];simp
  rw[ak h0,List.reverse_cons,List.flatten_append,ih _ (by omega) h0,Kr h,Kr h0];have e:=Zri (k:=18) (a:=n/1000000000000000000) (b:=n%1000000000000000000) h0 (mO _ (by decide));rw[show n/1000000000000000000*10^18+n%1000000000000000000=n by have:=vM n 1000000000000000000;omega]at e;rw[e];simp
def Zvd{a:Nat}(h:a<=b):(dv a).length<=(dv b).length:=qN.1 (po h (qN.2 (aO _)))
def Yhc:∀{n:Nat},(th n).length<=(dv n).length:=by
 intro n;induction n using Nat.strongRecOn with
 |_ n ih=>
  by_cases h:n=0
  ·subst h;rw[Va];simp
  rw[Vb h,bk,yS h,jm];have h1:=ih (n/1000000000000000000) (by omega);have h2:=Zvd (a:=n/1000000000000000000) (b:=n/10) (by omega);simp;omega
def Yom:∀{n:Nat} {s:aD},s∈th n->s≠[]:=by
 intro n;induction n using Nat.strongRecOn with
 |_ n ih=>
  intro s hs;by_cases h:n=0
  ·subst h;rw[Va]at hs;cases hs
  rw[Vb h]at hs;rcases iW.1 hs with hs|hs
  ·subst hs;split
   ·exact JP n
   intro hc;have:=Yms (b:=n%1000000000000000000) (k:=18) (mO _ (by decide));rw[hc]at this;simp at this
  exact ih _ (by omega) hs
def xK(l:List aD):List (List V):=l.map fun s=>[.str s]
def Yug{q:V}{Q n n':Nat}{h h':T O}{e:TypeId}(hq:Wn h n q Q)(hQ:Q≠0)(hv:Own 1 e nB h n v (xK gs))(hh:∀j,j<n->h'.get j=h.get j\/(∃o m c y,v=.slice j o m c y))(hn:n<=n'):Wn h' n' q Q:=by
 obtain⟨d,hd⟩:∃d,(aH Q)[0]?=some d:=by rw[og hQ];exact⟨_,rfl⟩
 rcases hq with⟨hz,_⟩|⟨i,o,cp,c,ee,rw,rfl,q1,q2,q3,q4⟩
 ·rw[og hQ]at hz;simp[dg]at hz
 refine .inr ⟨i,o,cp,c,ee,rw,rfl,fm q1 hn,?_,q3,q4⟩;rcases hh i q1 with h1|⟨o',m,c',y,rfl⟩
 ·rw[h1];exact q2
 exfalso;rcases hv with⟨_,⟨_,h1⟩|⟨i',h1,_,_,h2⟩⟩
 ·cases h1
 simp only[V.slice.injEq]at h1;obtain⟨rfl,_⟩:=h1;rw[q2]at h2;simp only[aq,O.cells.injEq]at h2;have h3:=q3 0 (by rw[bq,og hQ];simp);rw[f_ hd,h2.1]at h3;have:=cF h3;obtain⟨l,hl,hx⟩:=List.mem_flatten.1 this;obtain⟨s,_,rfl⟩:=bF.1 hl;simp at hx
structure QI (hB:T O) (nB M:Nat) (m:Nat) (r:T V) (st:St):Prop where
 w:ay nB st.w=[]
 ad:ab hB nB st.h st.n
 ex:∃u v gs,r.get 4=some u/\r.get 6=some v/\qg u=some (aH m).length/\(m≠0->Wn st.h st.n u m)/\Own 1 9 nB st.h st.n v (xK gs)/\gs++th m=th M
def Yjw{hB:T O}{M m:Nat}{r0:T V}{t:V}(hP:ik hB nB)(hM:(dv M).length<100000000000)(hm:m<=M)(ht:Wn hB nB t 1000000000000000000)(a5:r.get 5=some t)(hf:Fx [(4,4),(6,9),(24,53)] r0 69 ⟨r,69,[]⟩)(s:QI hB nB M m r sT):
  Code A.C none A.lG ⟨r,69,[]⟩ sT (Rd [(4,4),(6,9),(24,53)] r0 69 (fun k r st=>k<=M/\QI hB nB M k r st) m (fun e r st=>e=.exit 0/\QI hB nB M 0 r st)):=by
 obtain⟨H,n1,W⟩:=sT;obtain⟨hW,hK,u,v,gs,a4,a6,lu,hu,ho,hg⟩:=s;simp only at hW hK hu ho;rw[bu];by_cases h0:m=0
 ·subst h0;rw[sV]at lu;simp[A.lG,hf,a4,lu];exact⟨hW,hK,u,v,gs,by simp[a4],by simp[a6],by rw[sV];exact lu,hu,ho,hg⟩
 replace hu:=hu h0;have lp:0<(aH m).length:=by rw[og h0];simp
 have mI:(aH m).length<1000000000000:=by have h1:=Hv (n:=m) (k:=(dv M).length) (qN.2 (Zvd hm));unfold wl at h1;simp at h1;omega
 have nH:(aH 1000000000000000000).length<1000000000000:=by rw[J9 (by decide) (by decide)];decide
 have y8:gs.length+(th m).length<=(dv M).length:=by rw[<-jm,hg];exact Yhc
 have mZ:=Vb h0;rw[mZ,bk]at y8;simp[A.lG,a4,a5,lu,lp];refine av (Zu8 hu (ht.ad hK) (by decide) mI nH) ?_;rintro _ h2 n2 k2 ⟨q,AU,rfl,hq,Pc⟩;have lq:=hq.len;have lr:=Pc.len;rw[bq]at lq lr;obtain⟨R,hR⟩:∃R,m%1000000000000000000=R:=⟨_,rfl⟩;obtain⟨Q,hQ⟩:∃Q,m/1000000000000000000=Q:=⟨_,rfl⟩;rw[hR]at lr Pc mZ;rw[hQ]at lq hq mZ y8;have kk:=hK.trans k2;have Ar:=hP.ad kk;have app:∀(h3:T O) (n3:Nat) (W3:List Nat) (g:aD),ab h2 n2 h3 n3->ay nB W3=[]->g=(if Q=0 then an m else jb R 18)->
   ∃v' h' w',mm ⟨h3.set n3 (.cells [.str g] 9 true),n3+1,W3⟩ 1 16 9 v (.slice n3 0 1 (some 1) 1)=some (v',⟨h',n3+1+1,w'⟩)/\ay nB w'=[]/\ab hB nB h' (n3+1+1)/\(Q≠0->Wn h' (n3+1+1) q Q)/\Own 1 9 nB h' (n3+1+1) v' (xK (gs++[g]))/\(gs++[g])++th Q=th M:=by
  intro h3 n3 W3 g k3 CN qp
  have kk3:=kk.trans k3
  have iG:=kk3.le
  have vo:=(ho.ad (k2.trans k3)).ad (aM ab.refl (.cells [.str g] 9 true))
  obtain⟨v',h',w',e1,e2,e3,e4,e5⟩:=A7 (x:=[.str g]) (u:=.slice n3 0 1 (some 1) 1) (bytes:=16) (w:=W3) vo (by omega) (by decide) rfl (by simp[gb,St.row,aL]) (by simp[xK];omega)
  refine⟨v',h',w',e1,by rw[e2];exact CN,(kk3.trans (aM ab.refl _)).then e3,fun FC=>?_,by simpa[xK]using e5,by rw[qp,<-hg,mZ,uG];rfl⟩
  have Qq:=(hq.ad k3).ad (aM ab.refl (.cells [.str g] 9 true))
  refine Yug Qq FC vo (fun j hj=>?_) (wm _)
  rcases e4 j with h1|h1|h1
  ·exact .inl h1
  ·omega
  ·exact .inr h1
 by_cases Cc:R=0
 ·have FC:Q≠0:=by omega
  have lqp:0<(aH Q).length:=by rw[og FC];simp
  have zaz:(0:Int)<((aH Q).length:Int):=by omega
  have qp:[48,48,48,48,48,48,48,48,48,48,48,48,48,48,48,48,48,48]=(if Q=0 then an m else jb R 18):=by rw[ak FC,Cc];unfold jb;rw[uZ];rfl
  rw[Cc,sV]at lr;simp[lq,lr,lqp];refine av (Zt0 (k:=17) (by decide)) ?_;rintro _ h3 n3 k3 rfl;obtain⟨v',h',w',e1,e2,e3,e4,e5,e6⟩:=app h3 n3 W _ k3 hW qp;simp[hf,a6,jF,ag,e1];exact⟨Q,by omega,by omega,⟨e2,e3,q,v',_,by simp,by simp,lq,e4,e5,e6⟩⟩
 have hRw:aH R=[R]:=J9 (by unfold B;omega) Cc;obtain⟨i,o,c,e,wr,p1,p2,p3,p4⟩:=Pc.at (f_ (l:=aH R) (j:=0) (n:=R) (by rw[hRw];rfl));rw[hRw]at lr;have lr:qg AU=some 1:=lr;have hRd:=Kr Cc;rw[gE]at p4;by_cases FC:Q=0
 ·have qp:an R=(if Q=0 then an m else jb R 18):=by rw[ar FC];congr 1;omega
  have lqz:(aH Q).length=0:=by rw[FC,sV];rfl
  rw[lqz]at lq;simp[lr,p1,p3,p4];refine av (Yop (x:=R) (by omega) Ar) ?_;rintro _ h3 n3 k3 rfl;obtain⟨v',h',w',e1,e2,e3,e4,e5,e6⟩:=app h3 n3 W _ k3 hW qp;simp[hf,a6,lq,ag,e1];exact⟨Q,by omega,by omega,⟨e2,e3,q,v',_,by simp,by simp,by rw[lqz];exact lq,e4,e5,e6⟩⟩
 have lqp:0<(aH Q).length:=by rw[og FC];simp
 have zaz:(0:Int)<((aH Q).length:Int):=by omega
 have zbI:(dv R).length<=18:=qN.1 (by omega);have qp:List.replicate (18-(an R).length) 48++an R=(if Q=0 then an m else jb R 18):=by rw[ak FC,hRd];rfl
 have hs:(18:Int)-((an R).length:Int)=((18-(an R).length:Nat):Int):=by rw[hRd];omega
 have Hw:¬(9223372036854775807:Int)<(((List.replicate (18-(an R).length) (48:UInt8)).length+(an R).length:Nat):Int):=by rw[List.length_replicate,hRd];omega
 simp[lr,p1,p3,p4];refine av (Yop (x:=R) (by omega) Ar) ?_;rintro _ h3 n3 k3 rfl;generalize an R=S at*;simp(disch:=omega) [lq,lqp,hs];refine av (Zt0 (k:=18-S.length) (by omega)) ?_;rintro _ h4 n4 k4 rfl;obtain⟨v',h',w',e1,e2,e3,e4,e5,e6⟩:=app h4 n4 W _ (k3.trans k4) hW qp;generalize List.replicate (18-S.length) (48:UInt8)=Z at*;have dh:IntKind.max .i64=9223372036854775807:=rfl;have zaA:¬(9223372036854775807:Int)<(Z.length:Int)+(S.length:Int):=by omega
 simp[hf,a6,jF,dh,zaA,ag,e1];exact⟨Q,by omega,by omega,⟨e2,e3,q,v',_,by simp,by simp,lq,e4,e5,e6⟩⟩
structure QJ (hb:T O) (n0 b:Nat) (gs:List aD) (pre:aD) (k:Nat) (r:T V) (st:St):Prop where
 hk:k<=gs.length
 xI:r.get 11=some (.int .i64 ((k:Int)-1))
 w:ay n0 st.w=[]
 QF:∀i,i<b->st.h.get i=hb.get i
 bd:Bd st.h st.n b (pre++(gs.drop k).reverse.flatten)
def Ymk(gs:List aD)(k:Nat):gs.reverse.flatten=(gs.drop k).reverse.flatten++(gs.take k).reverse.flatten:=by
 conv=>lhs;rw[<-En k gs]
 rw[List.reverse_append,List.flatten_append]
def Yjt{j:Nat}{s:aD}(h:gs[j]?=some s):(xK gs).flatten[j]?=some (.str s):=by
 have:∀gs:List aD,(xK gs).flatten=gs.map V.str:=by
  intro gs;induction gs with
  |nil=>rfl
  |cons a gs ih=>show V.str a::(xK gs).flatten=_;rw[ih];rfl
 rw[this,eG,h];rfl
def Yjv{hb:T O}{nB n0 b k:Nat}{gs:List aD}{pre:aD}{v:V}{r r0:T V}{sT:St}(km:n0<=b)(hl:pre.length+gs.reverse.flatten.length<1000000000000)(y8:gs.length<1000000000000)(aW:∀s∈gs,s≠[])(ho:Own 1 9 nB hb b v (xK gs))(a6:r.get 6=some v)(J1:r.get 10=some (.ptr b 0))(hf:Fx [(11,11),(59,67)] r0 69 ⟨r,69,[]⟩)(s:QJ hb n0 b gs pre k r sT):
  Code A.C none A.lF ⟨r,69,[]⟩ sT (Rd [(11,11),(59,67)] r0 69 (QJ hb n0 b gs pre) k (fun e r st=>e=.exit 2/\QJ hb n0 b gs pre 0 r st)):=by
 obtain⟨H,n1,W⟩:=sT;obtain⟨hk,wJ,hW,hO,Hx⟩:=s;simp only at hW hO Hx;rw[bu];cases k with
 |zero=> have QK:r.get 11=some (.int .i64 (-1)):=wJ;simp[A.lF,hf,QK];exact⟨hk,by simp[QK],hW,hO,Hx⟩
 |succ j=>
  have e1:((j+1:Nat):Int)-1=(j:Int):=by omega
  rw[e1]at wJ;obtain⟨g,hg⟩:∃g,gs[j]?=some g:=⟨_,bV (by omega)⟩;have Fb:=Yjt hg;have lv:=ho.len;have lg:(xK gs).length=gs.length:=by simp[xK]
  rw[lg]at lv;have JG:(j:Int)<(gs.length:Int):=by omega
  rcases ho with⟨_,⟨h1,_⟩|⟨i,rfl,h2,h3,h4⟩⟩
  ·exfalso;have:gs=[]:=by simpa[xK]using h1
   subst this;simp at hk
  have az:=(hO i h3).trans h4;have Kt:(gs.drop j).reverse.flatten=(gs.drop (j+1)).reverse.flatten++g:=by
   have:gs.drop j=g::gs.drop (j+1):=by rw[IY (by omega)];congr 1;rw[bV (by omega)]at hg;simpa using hg
   rw[this,List.reverse_cons,List.flatten_append];simp
  have zaB:=congrArg List.length (Ymk gs j);rw[Kt,jm,jm]at zaB;simp[A.lF,a6,J1,wJ,az,Fb,JG,lg];refine AS (Ydy km Hx (aW g (cF hg)) (by rw[jm];omega)) ?_;rintro _ ⟨H2,n2,W2⟩ ⟨hn,gS,yN,q8⟩;simp only at hn gS yN q8;subst hn;simp(disch:=first|(simp;done)|omega|(simp only[bq,b_,bk];omega)|rfl) [hf,wJ];refine⟨j,by omega,by omega,by simp,by rw[gS,hW],fun i hi=>(yN i hi).trans (hO i hi),?_⟩;rw[Kt,<-uG];exact q8
def Yeh{hb:T O}{n0:Nat}{pre:aD}(km:n0<=b)(hl:pre.length+gs.reverse.flatten.length<1000000000000)(y8:gs.length<1000000000000)(aW:∀s∈gs,s≠[])(Vc:pre++gs.reverse.flatten≠[])(ho:Own 1 9 nB hb b v (xK gs))(a6:r.get 6=some v)(J1:r.get 10=some (.ptr b 0))
  (hW:ay n0 sT.w=[]) (hO:∀i,i<b->sT.h.get i=hb.get i) (Hx:Bd sT.h sT.n b pre):
  Code A.C none A.tg ⟨r,69,[]⟩ sT (fun e fr st=>e=.ret/\∃r',fr=⟨r',69,[]⟩/\r'.get 2=some (.str (pre++gs.reverse.flatten))/\ay n0 st.w=[]/\(∀i,i<b->st.h.get i=hb.get i)/\b<=st.n):=by
 obtain⟨H,n1,W⟩:=sT;simp only at hW hO Hx;rw[bu];have lv:=ho.len;rw[show (xK gs).length=gs.length by simp[xK]]at lv;simp(disch:=omega) [A.tg,a6,lv];refine cm [(11,11),(59,67)] (fun e r st=>e=.exit 2/\QJ hb n0 b gs pre 0 r st) (QJ hb n0 b gs pre) gs.length ?_ ?_ ?_
 ·exact⟨aO _,by simp,hW,hO,by simpa using Hx⟩
 ·intro k r' aA hr hf J;exact Yjv km hl y8 aW ho (by rw[hr 6 (by decide)];simp[a6]) (by rw[hr 10 (by decide)];simp[J1]) hf J
 rintro e r' ⟨H2,n2,W2⟩ hr ⟨rfl,hk,_,gS,yN,q8⟩;simp only at gS yN q8;rw[Br]at q8;have hb3:=q8.1;have zaC:r'.get 10=some (.ptr b 0):=by rw[hr 10 (by decide)];simp[J1]
 simp[zaC];refine AS (Ytg km q8 Vc (by rw[jm];omega)) ?_;rintro _ ⟨H3,n3,W3⟩ ⟨rfl,hn,CN,F7⟩;simp only at hn CN F7;subst hn;simp[];exact⟨by rw[CN,gS],fun i hi=>(F7 i hi).trans (yN i hi),by omega⟩
def Vd{x:V}{z:Int}{h:T O}{N:Nat}(hx:In h N x z)(hP:ik h N)(hl:(dv z.natAbs).length<100000000000):Fn A.C 169 [x] h N (fun v h' N'=>v=.str (aK z)):=by
 intro w;rw[aN,A.k169 (by simp)];rcases id hx with⟨rfl,h1,h2⟩|⟨i0,o0,l0,c0,rfl,ZI,pn⟩
 ·simp[A.b169,aQ,bh];refine av (Yr1 h1 h2 (hP.ad (aM ab.refl _))) ?_;rintro _ h3 n3 k3 rfl;simp[ax];exact(aM ab.refl _).trans k3
 simp[A.b169,aQ,aL,bh];refine av (Fq (hx.ad (aM ab.refl (.cells [.int .i64 (zO z),.slice i0 o0 l0 c0 1] 121 true)))) ?_;rintro _ h1 n1 k1 ⟨u,rfl,hu⟩;obtain⟨M,hM⟩:∃M,z.natAbs=M:=⟨_,rfl⟩;rw[hM]at hu hl;have hM0:M≠0:=by omega
 have lu:=hu.len;rw[bq]at lu;have kN:=(aM (ab.refl (h:=h) (n:=N)) (.cells [.int .i64 (zO z),.slice i0 o0 l0 c0 1] 121 true)).trans k1;have kT:=aM (ab.refl (h:=h1) (n:=n1)) (.cells [.int .u64 1000000000000000000] 205 true);have hT:Wn (h1.set n1 (.cells [.int .u64 1000000000000000000] 205 true)) (n1+1) (.slice n1 0 1 (some 1) 1) 1000000000000000000:=by unfold Wn;rw[J9 (by decide) (by decide)];exact Sl.row (e:=205) (rw:=true) (L:=1) (by omega) (by simp[dg]) (by simp) (by simp)
 simp[ag];generalize jz:h1.set n1 (.cells [.int .u64 1000000000000000000] 205 true)=hB at*;have hPB:=(hP.ad kN).ad kT;refine cm [(4,4),(6,9),(24,53)] (fun e r st=>e=.exit 0/\QI hB (n1+1) M 0 r st) (fun k r st=>k<=M/\QI hB (n1+1) M k r st) M ?_ ?_ ?_
 ·exact⟨aO _,by simp[ay],ab.refl,u,.aa,[],by simp,by simp,lu,fun _=>hu.ad kT,Own.nil,rfl⟩
 ·rintro m r st hr hf ⟨hm,J⟩;exact Yjw hPB hl hm hT (by rw[hr 5 (by decide)];simp) hf J
 rintro e r ⟨H,n2,W⟩ hr ⟨rfl,hW,hK,u2,v,gs,a4,a6,_,_,ho,hg⟩;rw[Va,zZ]at hg;subst hg;simp only at hW hK ho;have iG:=hK.le;have wE:=kN.le;have a3:r.get 3=some (.bool (decide (z<0))):=by rw[hr 3 (by decide)];simp
 have nk:=Yr9 hM0;have y8:(th M).length<1000000000000:=po Yhc (by omega);have ka:(an M).length<100000000000:=by rw[Kr hM0];exact hl
 have pq:Bd (H.set n2 (.cells [.bJ,.aa] 224 true)) (n2+1) n2 []:=⟨wO _,.bJ,.aa,by rw[T.ae,ar rfl],.inl rfl,.inl ⟨rfl,rfl⟩⟩;by_cases hz:z<0
 ·have Bh:aK z=[45]++(th M).reverse.flatten:=by unfold aK;rw[ar hz,hM,nk];rfl
  simp[a3,hz];refine AS (Ydy (n0:=n1+1) iG pq (t:=[45]) (by decide) (by decide)) ?_;rintro _ ⟨H2,n3,W2⟩ ⟨hn,gS,yN,q8⟩;simp only at hn gS yN q8;subst hn;simp[];refine mJ (Yeh (nB:=n1+1) (n0:=n1+1) (b:=n2) (hb:=H) (gs:=th M) (pre:=[45]) (v:=v) iG (by rw[nk];simp;omega) y8 (fun s hs=>Yom hs) (by simp) ho (by simp[a6]) (by simp) (by rw[gS,hW]) (fun i hi=>by rw[yN i hi,T.ae,ak (by omega)]) q8) ?_;rintro e fr ⟨H6,n6,W6⟩ ⟨rfl,r6,rfl,g2,g3,g4,g5⟩;simp only at g3 g4 g5;have hW6:=Mj (show N<=n1+1 by omega) g3;simp[g2,ax,hW6,Bh];exact⟨by omega,fun i hi=>by rw[g4 i (by omega),hK.get i (by omega),<-jz,T.ae,ak (by omega),kN.get i hi]⟩
 have Bh:aK z=[]++(th M).reverse.flatten:=by unfold aK;rw[ak hz,hM,nk];rfl
 simp[a3,hz];refine mJ (Yeh (nB:=n1+1) (n0:=n1+1) (b:=n2) (hb:=H) (gs:=th M) (pre:=[]) (v:=v) iG (by rw[nk];simp;omega) y8 (fun s hs=>Yom hs) (by rw[List.nil_append,nk];exact JP M) ho (by simp[a6]) (by simp) hW (fun i hi=>by rw[T.ae,ak (by omega)]) pq) ?_;rintro e fr ⟨H6,n6,W6⟩ ⟨rfl,r6,rfl,g2,g3,g4,g5⟩;simp only at g3 g4 g5;have hW6:=Mj (show N<=n1+1 by omega) g3;simp[g2,ax,hW6,Bh];exact⟨by omega,fun i hi=>by rw[g4 i (by omega),hK.get i (by omega),<-jz,T.ae,ak (by omega),kN.get i hi]⟩
end
end Go.Mx
