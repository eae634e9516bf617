/-strings-/
import Derived.Test.YtgccnjdneojagaaGreatDoorNcA
set_option linter.all false
set_option maxHeartbeats 4000000
namespace Go.Mx
noncomputable section
open Go Go.Proofs
set_option maxRecDepth 1000000
def Ygi:List UInt8:=List.replicate 128 32
def Ygh:List UInt8:=List.replicate 128 45
def Ypm:List UInt8:=List.replicate 128 61
def Yw0:List UInt8:=List.replicate 64 9
def Kt:List UInt8:=List.replicate 64 48
def A.Fz:cF:=.seq (sr [c1 111 247 9,mv 112 7,bi 113 .lss 111 112] (cd 113 (.skip) (.exit 3))) (.block 4 (sr [mv 114 7,c1 115 247 9,bi 116 .sub 114 115,c1 117 247 9,mv 118 8,ge 119 (.mn [tq 116,tq 117,tq 118]),mv 10 119] (.gw [c1 120 215 9,mv 121 10,ge 122 (.cG (tq 120) none (some (tq 121))),c2 123 214 9 122])))
def A.b213:cF:=sr [ge 4 (.vD (.const (.str [])))] (.seq (sr [mv 11 1] (.block 0 (sr [ei 13 11 0,mv 12 13] (cd 12 (sr [ge 4 (.vD (.const (.str [])))] (.ret)) (sr [ei 15 11 1,mv 14 15] (cd 14 (sr [mv 16 0,mv 4 16] (.ret)) (.skip))))))) (.seq (sr [mv 17 1,bc 18 .lss 17 0] (cd 18 (.gw [ge 19 (.je 9 (.const (.str [115,116,114,105,110,103,115,58,32,110,101,103,97,116,105,118,101,32,82,101,112,101,97,116,32,99,111,117,110,116]))),gn (.stop)]) (.skip))) (sr [mv 21 0,ge 22 (.len 0 (tq 21)),ge 23 (.dE .u64 (tq 22)),mv 24 1,ge 25 (.dE .u64 (tq 24)),c2 26 245 23 25,mv 20 26,xt 27 20 0,xt 28 20 1,mv 5 27,mv 6 28] (.seq (sr [mv 29 5,ge 30 (.bin .gtr (.node []) false (tq 29) (.const (.int .u64 0))),mv 31 30,mh 32 6 31,gz 33 31 (.bin .gtr (.node []) false (tq 32) (.const (.int .u64 9223372036854775807))),pt 34 31 33] (cd 34 (.gw [ge 35 (.je 9 (.const (.str [115,116,114,105,110,103,115,58,32,82,101,112,101,97,116,32,111,117,116,112,117,116,32,108,101,110,103,116,104,32,111,118,101,114,102,108,111,119]))),gn (.stop)]) (.skip))) (sr [mv 36 6,ge 37 (.dE .i64 (tq 36)),mv 7 37] (.seq (sr [mv 38 0,ge 39 (.len 0 (tq 38)),ei 40 39 0] (cd 40 (sr [ge 4 (.vD (.const (.str [])))] (.ret)) (.skip))) (.seq (sr [mv 41 0,ge 42 (.bN (tq 41) (kq 0))] (.block 1 (.seq (sr [ge 44 (.bin .eql (.fF .int) true (tq 42) (.const (.int .u8 32))),mv 43 44] (cd 43 (.skip) (sr [ge 45 (.bin .eql (.fF .int) true (tq 42) (.const (.int .u8 45))),mv 43 45] (cd 43 (.skip) (sr [ge 46 (.bin .eql (.fF .int) true (tq 42) (.const (.int .u8 48))),mv 43 46] (cd 43 (.skip) (sr [ge 47 (.bin .eql (.fF .int) true (tq 42) (.const (.int .u8 61))),mv 43 47] (cd 43 (.skip) (.gw [ge 48 (.bin .eql (.fF .int) true (tq 42) (.const (.int .u8 9))),mv 43 48]))))))))) (cd 43 (.block 2 (sr [mv 50 7,bc 51 .leq 50 128,mv 52 51,mg 53 0 52,gy 54 52 (.call (fq 225) [(.const (.str Ygi)),tq 53]),pf 55 52 54,mv 49 55] (cd 49 (sr [mv 56 7,ge 57 (.cG (.const (.str Ygi)) none (some (tq 56))),mv 4 57] (.ret)) (sr [mv 59 7,bc 60 .leq 59 128,mv 61 60,mg 62 0 61,gy 63 61 (.call (fq 225) [(.const (.str Ygh)),tq 62]),pf 64 61 63,mv 58 64] (cd 58 (sr [mv 65 7,ge 66 (.cG (.const (.str Ygh)) none (some (tq 65))),mv 4 66] (.ret)) (sr [mv 68 7,bc 69 .leq 68 64,mv 70 69,mg 71 0 70,gy 72 70 (.call (fq 225) [(.const (.str Kt)),tq 71]),pf 73 70 72,mv 67 73] (cd 67 (sr [mv 74 7,ge 75 (.cG (.const (.str Kt)) none (some (tq 74))),mv 4 75] (.ret)) (sr [mv 77 7,bc 78 .leq 77 128,mv 79 78,mg 80 0 79,gy 81 79 (.call (fq 225) [(.const (.str Ypm)),tq 80]),pf 82 79 81,mv 76 82] (cd 76 (sr [mv 83 7,ge 84 (.cG (.const (.str Ypm)) none (some (tq 83))),mv 4 84] (.ret)) (sr [mv 86 7,bc 87 .leq 86 64,mv 88 87,mg 89 0 88,gy 90 88 (.call (fq 225) [(.const (.str Yw0)),tq 89]),pf 91 88 90,mv 85 91] (cd 85 (sr [mv 92 7,ge 93 (.cG (.const (.str Yw0)) none (some (tq 92))),mv 4 93] (.ret)) (.skip)))))))))))) (.skip))))) (sr [mv 94 7,mv 8 94] (.seq (sr [mv 95 7,bc 96 .gtr 95 8192] (cd 96 (sr [mv 97 0,ge 98 (.len 0 (tq 97)),ge 99 (.bin .quo (.node []) false (kq 8192) (tq 98)),mv 100 0,ge 101 (.len 0 (tq 100)),bi 102 .mul 99 101,mv 8 102] (sr [mv 103 8,ei 104 103 0] (cd 104 (.gw [mv 105 0,ge 106 (.len 0 (tq 105)),mv 8 106]) (.skip)))) (.skip))) (sr [ge 9 (.alloc [.bM,.aa] 217)] (sr [mv 107 7,c2 108 246 9 107] (sr [mv 109 0,c2 110 214 9 109] (.seq (.block 3 (.loop A.Fz)) (sr [c1 124 215 9,mv 4 124] (.ret)))))))))))))))
def A.k213:=@A.kk 213 125 [.tmp 4] A.b213 (by kernel_rfl) rfl
def A.b245:=A.q Tryz.f245
def A.k245:=@A.kk 245 30 [.tmp 4,.tmp 5] A.b245 (by kernel_rfl) rfl
def Yvk{h:T O}{N:Nat}{x y:Nat}(hx:x<18446744073709551616)(hy:y<18446744073709551616):Fn A.C 245 [.int .u64 x,.int .u64 y] h N (fun v' h' N'=>h'=h/\N'=N/\v'=.aX [.int .u64 (cE (x*y):Nat),.int .u64 (bC (x*y):Nat)]):=by intro w;rw[aQ,A.k245 (by simp)];simp[A.b245];refine ar (Qa hx hy) ?_;rintro _ _ _ k1 ⟨rfl,rfl,rfl⟩;simp[az];exact k1
def Yiq{a c:UInt8}{s:aG}{st:St}:A.C.call (.func 225 [] []) [.str (a::s),.str [c]] st=some (.bool (decide (a=c)),st):=by
 have e:(([a]:aG)==[c])=decide (a=c):=by rw[Bool.eq_iff_iff];simp
 have h1:(1:Int)<=(s.length:Int)+1:=by omega
 apply Call.eq;rw[aQ,A.k225 (by simp)];have jJ:∀st,A.C.call (.func 251 [] []) [.str (a::s),.str [c]] st=some (.bool (decide (a=c)),st):=fun st=>by apply Call.eq;rw[aQ,A.k251 (by simp)];simp[A.b251,aC,dW,m_,AK,e,h1]
 simp[A.b225,jJ]
def Xcw{st:St}:A.C.call (.func 225 [] []) [.str Ygi,.str [48]] st=some (.bool false,st):=Yiq (a:=32) (s:=List.replicate 127 32)
def Xcv{st:St}:A.C.call (.func 225 [] []) [.str Ygh,.str [48]] st=some (.bool false,st):=Yiq (a:=45) (s:=List.replicate 127 45)
def Xcu{st:St}:A.C.call (.func 225 [] []) [.str Kt,.str [48]] st=some (.bool true,st):=Yiq (a:=48) (s:=List.replicate 63 48)
def Ycm{k:Nat}(h:k<=64):List.take k Kt=List.replicate k 48:=by unfold Kt;rw[List.take_replicate,ry h]
def Ygg:Kt.length=64:=by simp[Kt]
def Zu2{k:Nat}(hk:k<=18){h:T O}{N:Nat}:Fn A.C 213 [.str [48],.int .i64 k] h N (fun v h' N'=>v=.str (List.replicate k 48)):=by
 intro w;rw[aQ,A.k213 (by simp)];by_cases c0:k=0
 ·subst c0;simp[A.b213,az];exact ab.refl
 by_cases c1:k=1
 ·subst c1;simp[A.b213,az];exact ab.refl
 have c3:¬(k:Int)=1:=by omega
 have e0:bn .u64 (1:Int)=((1:Nat):Int):=G8 (by omega) (by omega);have e1:bn .u64 (k:Int)=(k:Int):=G8 (by omega) (by omega);have c4:¬(k:Int)<0:=by omega
 simp[A.b213,c0,c3,c4,e0,e1];refine ar (Yvk (x:=1) (y:=k) (by omega) (by omega)) ?_;rintro _ _ _ _ ⟨rfl,rfl,rfl⟩;have g1:cE (1*k)=0:=by unfold cE;omega
 have g2:bC (1*k)=k:=by unfold bC;omega
 have g3:¬(9223372036854775807:Int)<(k:Int):=by omega
 have g4:bn .i64 (k:Int)=(k:Int):=cL (by omega) (by omega);have g7:cX 48=48:=rfl;have g5:(k:Int)<=128:=by omega
 have g6:(k:Int)<=64:=by omega
 rw[g1,g2];simp(disch:=omega) [g3,g4,g5,g6,g7,Xcw,Xcv,Xcu,AK,aC,dW,m_,Ygg,Ycm,az];exact ab.refl
variable {N b:Nat} {h:T O} {s:aG} {w:List Nat}
def A.b248:cF:=sr [mv 2 0,ge 3 (.pU (tq 2)),fa 4 0 3,ld 5 4,ge 6 (.bin .eql (.fF .ptr) true (tq 5) (.const .bM))] (cd 6 (.gw [mv 7 0,mv 8 0,ge 9 (.LF none (tq 8)),ge 10 (.ext .same [tq 9]),ge 11 (.LF (some (217,2)) (tq 10)),ge 12 (.pU (tq 7)),fa 13 0 12,so 13 11]) (sr [mv 14 0,ge 15 (.pU (tq 14)),fa 16 0 15,ld 17 16,mv 18 0,ge 19 (.bin .neq (.fF .ptr) false (tq 17) (tq 18))] (cd 19 (.stop) (.skip))))
def A.k248:=@A.kk 248 20 [] A.b248 (by kernel_rfl) rfl
def A.b214:=A.q Tryz.f214
def A.k214:=@A.kk 214 19 [.tmp 4,.tmp 5] A.b214 (by kernel_rfl) rfl
def A.b215:=A.q Tryz.f215
def A.k215:=@A.kk 215 14 [.tmp 2] A.b215 (by kernel_rfl) rfl
def Bd(h:T O)(N b:Nat)(s:aG):Prop:=b<N/\∃p v,h.get b=some (.cells [p,v] 217 true)/\(p=.bM\/p=.ptr b 0)/\((v=.aa/\s=[])\/∃j,v=.slice j 0 s.length none 1/\b<j/\j<N/\s≠[]/\h.get j=some (.cells (s.map vB) 5 true))
def Yvg{n2:Nat}(fV:n2<=b)(hb:Bd h N b s):Call A.C (.func 248 [] []) [.ptr b 0] ⟨h,N,w⟩ (fun _ st=>st.n=N/\ay n2 st.w=ay n2 w/\(∀i,i<b->st.h.get i=h.get i)/\Bd st.h N b s):=by
 obtain⟨hN,p,v,hr,hp,hv⟩:=hb;have sM:¬b<n2:=by omega
 rw[aQ,A.k248 (by simp)];rcases hp with rfl|rfl
 ·simp[A.b248,hr,bA,Gy,hN,sM];refine⟨fun i hi hc=>by omega,hN,.ptr b 0,v,?_,.inr rfl,?_⟩
  ·rw[T.ag,av rfl];rfl
  rcases hv with hv|⟨j,h1,h2,h3,h4,h5⟩
  ·exact .inl hv
  exact .inr ⟨j,h1,h2,h3,h4,by rw[T.ag,ak (by omega)];exact h5⟩
 simp[A.b248,hr,bA];exact⟨hN,.ptr b 0,v,hr,.inr rfl,hv⟩
def Ye2{n0:Nat}{t:aG}(jy:n0<=b)(hb:Bd h N b s)(ht:t≠[])(hl:s.length+t.length<1000000000000):Call A.C (.func 214 [] []) [.ptr b 0,.str t] ⟨h,N,w⟩ (fun _ st=>st.n=N+1/\ay n0 st.w=ay n0 w/\(∀i,i<b->st.h.get i=h.get i)/\Bd st.h (N+1) b (s++t)):=by
 rw[aQ,A.k214 (by simp)];simp[A.b214];refine BL (Yvg jy hb) ?_;rintro _ ⟨H2,n2,W2⟩ ⟨hn,hW,hO,sM⟩;simp only at hn hW hO sM;subst hn;obtain⟨hN,p,v,hr,hp,hv⟩:=sM;have q9:¬t.length=0:=by simpa using ht
 have hc:(t.map vB).length=t.length:=by simp
 have Hw:ay n0 W2=[]:=hW;have m1:2*t.length<=281474976710656:=by omega
 have m2:¬281474976710656<2*(s.length+t.length):=by omega
 have m3:¬s.length+t.length<=s.length:=by omega
 have aZ:¬b=n2:=by omega
 have qU:¬b<n0:=by omega
 rcases hv with⟨rfl,rfl⟩|⟨j,rfl,h2,h3,h4,h5⟩
 ·simp[-ay,hr,EG,oc,fQ,zR,q9,St.alloc,m1,aZ,bO,ae];refine⟨P7 (P8 (by simp[ay,Hw,qU])),fun i hi=>?_,by omega,p,.slice n2 0 t.length none 1,by rw[T.ag,av rfl],hp,.inr ⟨n2,rfl,hN,by omega,ht,by rw[T.ag,ak (by omega),T.ag,av rfl];rfl⟩⟩;rw[ak (by omega),ak (by omega)];exact hO i hi
 have np:¬b=j:=by omega
 have Ca:¬j<n0:=by omega
 simp[-ay,hr,EG,oc,fQ,zR,q9,St.alloc,St.row,h5,m2,m3,aZ,np,bO,ae];refine⟨P7 (P8 (by simp[ay,Hw,qU,Ca])),fun i hi=>?_,by omega,p,.slice n2 0 (s.length+t.length) none 1,by rw[T.ag,av rfl],hp,.inr ⟨n2,by simp,hN,by omega,by simp[h4],by rw[T.ag,ak (by omega),T.ag,av rfl,List.map_append];rfl⟩⟩;rw[ak (by omega),ak (by omega),ak (by omega)];exact hO i hi
def Yrs{α:Type}(c:List α):aP c 0 c.length=some c:=by unfold aP;simp
def Zwl:∀(s:aG),Jp (s.map vB)=some s
 |[]=>rfl
 |c::s=>by
  rw[pX]
  have h1:TY (vB c)=some c:=by
   unfold TY vB cX
   have:=c.toNat_lt
   simp
   omega
  simp only[Jp,h1,Zwl s]
def Yvj{n0:Nat}(jy:n0<=b)(hb:Bd h N b s)(hs:s≠[])(hl:s.length<1000000000000):Call A.C (.func 215 [] []) [.ptr b 0] ⟨h,N,w⟩ (fun v st=>v=.str s/\st.n=N/\ay n0 st.w=ay n0 w/\(∀i,i<b->st.h.get i=h.get i)):=by
 obtain⟨hN,p,v,hr,hp,hv⟩:=hb;rw[aQ,A.k215 (by simp)];rcases hv with⟨_,rfl⟩|⟨j,rfl,h2,h3,h4,h5⟩
 ·exact absurd rfl hs
 have h0:0<s.length:=List.length_pos_iff.2 hs;have jJ:(0:Int)<(s.length:Int):=by omega
 have hm:(s.length:Int)<=9223372036854775807:=by omega
 have cC:aP (s.map vB) 0 s.length=some (s.map vB):=by have:=Yrs (s.map vB);rw[di]at this;exact this
 have hbm:=Zwl s;have Ca:¬j<n0:=by omega
 simp[A.b215,hr,LY,LZ,h0,hm,h5,h3,hN,cC,hbm,Ca];exact fun i hi hc=>by omega
variable {b nB:Nat} {gs:List aG} {r:T V} {sT:St} {v:V}
def A.FA:=A.q Tryz.f143
def A.mj:=A.ql A.FA 1 []
def A.mm:=A.ql A.FA 0 []
def A.tV:=(fun x0 x1=>A.qt A.FA [x0,x1] [] [1,1,1,1,1,1,1,1]) A.mm A.mj
def A.b143:=(fun x0 x1 y0=>A.qt A.FA [x0,x1] [([1,1,1,1,1,1,1,1],y0)] []) A.mm A.mj A.tV
def A.k143:=@A.kk 143 69 [.tmp 2] A.b143 (by kernel_rfl) rfl
def tW(n:Nat):List aG:=if h:n=0 then [] else (if n/1000000000000000000=0 then aq n else jg (n%1000000000000000000) 18)::tW (n/1000000000000000000)
termination_by n
decreasing_by omega
def Vw:tW 0=[]:=by unfold tW;simp
def Vx{n:Nat}(h:n≠0):tW n=(if n/1000000000000000000=0 then aq n else jg (n%1000000000000000000) 18)::tW (n/1000000000000000000):=by
 conv=>lhs;unfold tW
 rw[dif_neg h]
def Yuh:∀{n:Nat},n≠0->(tW n).reverse.flatten=aq n:=by
 intro n;induction n using Nat.strongRecOn with
 |_ n ih=>
  intro h;rw[Vx h];by_cases h0:n/1000000000000000000=0
  ·rw[av h0,h0,Vw];simp
  rw[ak h0,List.reverse_cons,List.flatten_append,ih _ (by omega) h0,Ks h,Ks h0];have e:=Zsg (k:=18) (a:=n/1000000000000000000) (b:=n%1000000000000000000) h0 (m8 _ (by decide));rw[show n/1000000000000000000*10^18+n%1000000000000000000=n by have:=wI n 1000000000000000000;omega]at e;rw[e];simp
def Zwd{a:Nat}(h:a<=b):(du a).length<=(du b).length:=rE.1 (oC h (rE.2 (aM _)))
def Yis:∀{n:Nat},(tW n).length<=(du n).length:=by
 intro n;induction n using Nat.strongRecOn with
 |_ n ih=>
  by_cases h:n=0
  ·subst h;rw[Vw];simp
  rw[Vx h,bl,zn h,iI];have h1:=ih (n/1000000000000000000) (by omega);have h2:=Zwd (a:=n/1000000000000000000) (b:=n/10) (by omega);simp;omega
def Yp7:∀{n:Nat} {s:aG},s∈tW n->s≠[]:=by
 intro n;induction n using Nat.strongRecOn with
 |_ n ih=>
  intro s hs;by_cases h:n=0
  ·subst h;rw[Vw]at hs;cases hs
  rw[Vx h]at hs;rcases ky.1 hs with hs|hs
  ·subst hs;split
   ·exact JM n
   intro hc;have:=Yod (b:=n%1000000000000000000) (k:=18) (m8 _ (by decide));rw[hc]at this;simp at this
  exact ih _ (by omega) hs
def yh(l:List aG):List (List V):=l.map fun s=>[.str s]
def Ywe{q:V}{Q n n':Nat}{h h':T O}{e:TypeId}(hq:Wn h n q Q)(hQ:Q≠0)(hv:Own 1 e nB h n v (yh gs))(hh:∀j,j<n->h'.get j=h.get j\/(∃o m c y,v=.slice j o m c y))(hn:n<=n'):Wn h' n' q Q:=by
 obtain⟨d,hd⟩:∃d,(aJ Q)[0]?=some d:=by rw[oM hQ];exact⟨_,rfl⟩
 rcases hq with⟨hz,_⟩|⟨i,o,cp,c,ee,rw,rfl,q1,q2,q3,q4⟩
 ·rw[oM hQ]at hz;simp[dg]at hz
 refine .inr ⟨i,o,cp,c,ee,rw,rfl,fg q1 hn,?_,q3,q4⟩;rcases hh i q1 with h1|⟨o',m,c',y,rfl⟩
 ·rw[h1];exact q2
 exfalso;rcases hv with⟨_,⟨_,h1⟩|⟨i',h1,_,_,h2⟩⟩
 ·cases h1
 simp only[V.slice.injEq]at h1;obtain⟨rfl,_⟩:=h1;rw[q2]at h2;simp only[au,O.cells.injEq]at h2;have h3:=q3 0 (by rw[bz,oM hQ];simp);rw[fZ hd,h2.1]at h3;have:=cy h3;obtain⟨l,hl,hx⟩:=List.mem_flatten.1 this;obtain⟨s,_,rfl⟩:=bK.1 hl;simp at hx
structure QU (hB:T O) (nB M:Nat) (m:Nat) (r:T V) (st:St):Prop where
 w:ay nB st.w=[]
 ad:ab hB nB st.h st.n
 ex:∃u v gs,r.get 4=some u/\r.get 6=some v/\qQ u=some (aJ m).length/\(m≠0->Wn st.h st.n u m)/\Own 1 9 nB st.h st.n v (yh gs)/\gs++tW m=tW M
def Yle{hB:T O}{M m:Nat}{r0:T V}{t:V}(hP:iG hB nB)(hM:(du M).length<100000000000)(hm:m<=M)(ht:Wn hB nB t 1000000000000000000)(a5:r.get 5=some t)(hf:Fx [(4,4),(6,9),(24,53)] r0 69 ⟨r,69,[]⟩)(s:QU hB nB M m r sT):
  Code A.C none A.mm ⟨r,69,[]⟩ sT (Rd [(4,4),(6,9),(24,53)] r0 69 (fun k r st=>k<=M/\QU hB nB M k r st) m (fun e r st=>e=.exit 0/\QU hB nB M 0 r st)):=by
 obtain⟨H,n1,W⟩:=sT;obtain⟨hW,hK,u,v,gs,a4,a6,lu,hu,ho,hg⟩:=s;simp only at hW hK hu ho;rw[bu];by_cases h0:m=0
 ·subst h0;rw[tJ]at lu;simp[A.mm,hf,a4,lu];exact⟨hW,hK,u,v,gs,by simp[a4],by simp[a6],by rw[tJ];exact lu,hu,ho,hg⟩
 replace hu:=hu h0;have lp:0<(aJ m).length:=by rw[oM h0];simp
 have rV:(aJ m).length<1000000000000:=by have h1:=Hx (n:=m) (k:=(du M).length) (rE.2 (Zwd hm));unfold wl at h1;simp at h1;omega
 have nE:(aJ 1000000000000000000).length<1000000000000:=by rw[J7 (by decide) (by decide)];decide
 have zy:gs.length+(tW m).length<=(du M).length:=by rw[<-iI,hg];exact Yis
 have jP:=Vx h0;rw[jP,bl]at zy;simp[A.mm,a4,a5,lu,lp];refine ar (Zv8 hu (ht.ad hK) (by decide) rV nE) ?_;rintro _ h2 n2 k2 ⟨q,C7,rfl,hq,Pa⟩;have lq:=hq.len;have lr:=Pa.len;rw[bz]at lq lr;obtain⟨R,hR⟩:∃R,m%1000000000000000000=R:=⟨_,rfl⟩;obtain⟨Q,hQ⟩:∃Q,m/1000000000000000000=Q:=⟨_,rfl⟩;rw[hR]at lr Pa jP;rw[hQ]at lq hq jP zy;have kk:=hK.trans k2;have AR:=hP.ad kk;have app:∀(h3:T O) (n3:Nat) (W3:List Nat) (g:aG),ab h2 n2 h3 n3->ay nB W3=[]->g=(if Q=0 then aq m else jg R 18)->
   ∃v' h' w',oc ⟨h3.set n3 (.cells [.str g] 9 true),n3+1,W3⟩ 1 16 9 v (.slice n3 0 1 (some 1) 1)=some (v',⟨h',n3+1+1,w'⟩)/\ay nB w'=[]/\ab hB nB h' (n3+1+1)/\(Q≠0->Wn h' (n3+1+1) q Q)/\Own 1 9 nB h' (n3+1+1) v' (yh (gs++[g]))/\(gs++[g])++tW Q=tW M:=by
  intro h3 n3 W3 g k3 zu q_
  have Hy:=kk.trans k3
  have ij:=Hy.le
  have wm:=(ho.ad (k2.trans k3)).ad (aR ab.refl (.cells [.str g] 9 true))
  obtain⟨v',h',w',e1,e2,e3,e4,e5⟩:=Ao (x:=[.str g]) (u:=.slice n3 0 1 (some 1) 1) (bytes:=16) (w:=W3) wm (by omega) (by decide) rfl (by simp[fQ,St.row,aP]) (by simp[yh];omega)
  refine⟨v',h',w',e1,by rw[e2];exact zu,(Hy.trans (aR ab.refl _)).then e3,fun FB=>?_,by simpa[yh]using e5,by rw[q_,<-hg,jP,uQ];rfl⟩
  have QD:=(hq.ad k3).ad (aR ab.refl (.cells [.str g] 9 true))
  refine Ywe QD FB wm (fun j hj=>?_) (xf _)
  rcases e4 j with h1|h1|h1
  ·exact .inl h1
  ·omega
  ·exact .inr h1
 by_cases Ck:R=0
 ·have FB:Q≠0:=by omega
  have lqp:0<(aJ Q).length:=by rw[oM FB];simp
  have zaH:(0:Int)<((aJ Q).length:Int):=by omega
  have q_:[48,48,48,48,48,48,48,48,48,48,48,48,48,48,48,48,48,48]=(if Q=0 then aq m else jg R 18):=by rw[ak FB,Ck];unfold jg;rw[vV];rfl
  rw[Ck,tJ]at lr;simp[lq,lr,lqp];refine ar (Zu2 (k:=17) (by decide)) ?_;rintro _ h3 n3 k3 rfl;obtain⟨v',h',w',e1,e2,e3,e4,e5,e6⟩:=app h3 n3 W _ k3 hW q_;simp[hf,a6,jE,ae,e1];exact⟨Q,by omega,by omega,⟨e2,e3,q,v',_,by simp,by simp,lq,e4,e5,e6⟩⟩
 have hRw:aJ R=[R]:=J7 (by unfold B;omega) Ck;obtain⟨i,o,c,e,wr,p1,p2,p3,p4⟩:=Pa.at (fZ (l:=aJ R) (j:=0) (n:=R) (by rw[hRw];rfl));rw[hRw]at lr;have lr:qQ C7=some 1:=lr;have hRd:=Ks Ck;rw[gE]at p4;by_cases FB:Q=0
 ·have q_:aq R=(if Q=0 then aq m else jg R 18):=by rw[av FB];congr 1;omega
  have lqz:(aJ Q).length=0:=by rw[FB,tJ];rfl
  rw[lqz]at lq;simp[lr,p1,p3,p4];refine ar (Yp9 (x:=R) (by omega) AR) ?_;rintro _ h3 n3 k3 rfl;obtain⟨v',h',w',e1,e2,e3,e4,e5,e6⟩:=app h3 n3 W _ k3 hW q_;simp[hf,a6,lq,ae,e1];exact⟨Q,by omega,by omega,⟨e2,e3,q,v',_,by simp,by simp,by rw[lqz];exact lq,e4,e5,e6⟩⟩
 have lqp:0<(aJ Q).length:=by rw[oM FB];simp
 have zaH:(0:Int)<((aJ Q).length:Int):=by omega
 have zbZ:(du R).length<=18:=rE.1 (by omega);have q_:List.replicate (18-(aq R).length) 48++aq R=(if Q=0 then aq m else jg R 18):=by rw[ak FB,hRd];rfl
 have hs:(18:Int)-((aq R).length:Int)=((18-(aq R).length:Nat):Int):=by rw[hRd];omega
 have Cr:¬(9223372036854775807:Int)<(((List.replicate (18-(aq R).length) (48:UInt8)).length+(aq R).length:Nat):Int):=by rw[List.length_replicate,hRd];omega
 simp[lr,p1,p3,p4];refine ar (Yp9 (x:=R) (by omega) AR) ?_;rintro _ h3 n3 k3 rfl;generalize aq R=S at*;simp(disch:=omega) [lq,lqp,hs];refine ar (Zu2 (k:=18-S.length) (by omega)) ?_;rintro _ h4 n4 k4 rfl;obtain⟨v',h',w',e1,e2,e3,e4,e5,e6⟩:=app h4 n4 W _ (k3.trans k4) hW q_;generalize List.replicate (18-S.length) (48:UInt8)=Z at*;have cU:IntKind.max .i64=9223372036854775807:=rfl;have zaI:¬(9223372036854775807:Int)<(Z.length:Int)+(S.length:Int):=by omega
 simp[hf,a6,jE,cU,zaI,ae,e1];exact⟨Q,by omega,by omega,⟨e2,e3,q,v',_,by simp,by simp,lq,e4,e5,e6⟩⟩
structure QV (hb:T O) (n0 b:Nat) (gs:List aG) (pre:aG) (k:Nat) (r:T V) (st:St):Prop where
 hk:k<=gs.length
 yf:r.get 11=some (.int .i64 ((k:Int)-1))
 w:ay n0 st.w=[]
 QR:∀i,i<b->st.h.get i=hb.get i
 bd:Bd st.h st.n b (pre++(gs.drop k).reverse.flatten)
def Yn5(gs:List aG)(k:Nat):gs.reverse.flatten=(gs.drop k).reverse.flatten++(gs.take k).reverse.flatten:=by
 conv=>lhs;rw[<-Df k gs]
 rw[List.reverse_append,List.flatten_append]
def Ylb{j:Nat}{s:aG}(h:gs[j]?=some s):(yh gs).flatten[j]?=some (.str s):=by
 have:∀gs:List aG,(yh gs).flatten=gs.map V.str:=by
  intro gs;induction gs with
  |nil=>rfl
  |cons a gs ih=>show V.str a::(yh gs).flatten=_;rw[ih];rfl
 rw[this,eH,h];rfl
def Yld{hb:T O}{nB n0 b k:Nat}{gs:List aG}{pre:aG}{v:V}{r r0:T V}{sT:St}(jy:n0<=b)(hl:pre.length+gs.reverse.flatten.length<1000000000000)(zy:gs.length<1000000000000)(aZ:∀s∈gs,s≠[])(ho:Own 1 9 nB hb b v (yh gs))(a6:r.get 6=some v)(JY:r.get 10=some (.ptr b 0))(hf:Fx [(11,11),(59,67)] r0 69 ⟨r,69,[]⟩)(s:QV hb n0 b gs pre k r sT):
  Code A.C none A.mj ⟨r,69,[]⟩ sT (Rd [(11,11),(59,67)] r0 69 (QV hb n0 b gs pre) k (fun e r st=>e=.exit 2/\QV hb n0 b gs pre 0 r st)):=by
 obtain⟨H,n1,W⟩:=sT;obtain⟨hk,uL,hW,hO,DR⟩:=s;simp only at hW hO DR;rw[bu];cases k with
 |zero=> have QW:r.get 11=some (.int .i64 (-1)):=uL;simp[A.mj,hf,QW];exact⟨hk,by simp[QW],hW,hO,DR⟩
 |succ j=>
  have e1:((j+1:Nat):Int)-1=(j:Int):=by omega
  rw[e1]at uL;obtain⟨g,hg⟩:∃g,gs[j]?=some g:=⟨_,ct (by omega)⟩;have EZ:=Ylb hg;have lv:=ho.len;have lg:(yh gs).length=gs.length:=by simp[yh]
  rw[lg]at lv;have IN:(j:Int)<(gs.length:Int):=by omega
  rcases ho with⟨_,⟨h1,_⟩|⟨i,rfl,h2,h3,h4⟩⟩
  ·exfalso;have:gs=[]:=by simpa[yh]using h1
   subst this;simp at hk
  have aA:=(hO i h3).trans h4;have Ku:(gs.drop j).reverse.flatten=(gs.drop (j+1)).reverse.flatten++g:=by
   have:gs.drop j=g::gs.drop (j+1):=by rw[IZ (by omega)];congr 1;rw[ct (by omega)]at hg;simpa using hg
   rw[this,List.reverse_cons,List.flatten_append];simp
  have zaJ:=congrArg List.length (Yn5 gs j);rw[Ku,iI,iI]at zaJ;simp[A.mj,a6,JY,uL,aA,EZ,IN,lg];refine BL (Ye2 jy DR (aZ g (cy hg)) (by rw[iI];omega)) ?_;rintro _ ⟨H2,n2,W2⟩ ⟨hn,fY,zh,sM⟩;simp only at hn fY zh sM;subst hn;simp(disch:=first|(simp;done)|omega|(simp only[bz,cm,bl];omega)|rfl) [hf,uL];refine⟨j,by omega,by omega,by simp,by rw[fY,hW],fun i hi=>(zh i hi).trans (hO i hi),?_⟩;rw[Ku,<-uQ];exact sM
def Yfn{hb:T O}{n0:Nat}{pre:aG}(jy:n0<=b)(hl:pre.length+gs.reverse.flatten.length<1000000000000)(zy:gs.length<1000000000000)(aZ:∀s∈gs,s≠[])(Vy:pre++gs.reverse.flatten≠[])(ho:Own 1 9 nB hb b v (yh gs))(a6:r.get 6=some v)(JY:r.get 10=some (.ptr b 0))
  (hW:ay n0 sT.w=[]) (hO:∀i,i<b->sT.h.get i=hb.get i) (DR:Bd sT.h sT.n b pre):
  Code A.C none A.tV ⟨r,69,[]⟩ sT (fun e fr st=>e=.ret/\∃r',fr=⟨r',69,[]⟩/\r'.get 2=some (.str (pre++gs.reverse.flatten))/\ay n0 st.w=[]/\(∀i,i<b->st.h.get i=hb.get i)/\b<=st.n):=by
 obtain⟨H,n1,W⟩:=sT;simp only at hW hO DR;rw[bu];have lv:=ho.len;rw[show (yh gs).length=gs.length by simp[yh]]at lv;simp(disch:=omega) [A.tV,a6,lv];refine b_ [(11,11),(59,67)] (fun e r st=>e=.exit 2/\QV hb n0 b gs pre 0 r st) (QV hb n0 b gs pre) gs.length ?_ ?_ ?_
 ·exact⟨aM _,by simp,hW,hO,by simpa using DR⟩
 ·intro k r' aB hr hf J;exact Yld jy hl zy aZ ho (by rw[hr 6 (by decide)];simp[a6]) (by rw[hr 10 (by decide)];simp[JY]) hf J
 rintro e r' ⟨H2,n2,W2⟩ hr ⟨rfl,hk,_,fY,zh,sM⟩;simp only at fY zh sM;rw[BB]at sM;have hb3:=sM.1;have zaK:r'.get 10=some (.ptr b 0):=by rw[hr 10 (by decide)];simp[JY]
 simp[zaK];refine BL (Yvj jy sM Vy (by rw[iI];omega)) ?_;rintro _ ⟨H3,n3,W3⟩ ⟨rfl,hn,zu,Ho⟩;simp only at hn zu Ho;subst hn;simp[];exact⟨by rw[zu,fY],fun i hi=>(Ho i hi).trans (zh i hi),by omega⟩
def Vz{x:V}{z:Int}{h:T O}{N:Nat}(hx:In h N x z)(hP:iG h N)(hl:(du z.natAbs).length<100000000000):Fn A.C 143 [x] h N (fun v h' N'=>v=.str (aN z)):=by
 intro w;rw[aQ,A.k143 (by simp)];rcases id hx with⟨rfl,h1,h2⟩|⟨i0,o0,l0,c0,rfl,hw0,pN⟩
 ·simp[A.b143,aS,bA];refine ar (Yt9 h1 h2 (hP.ad (aR ab.refl _))) ?_;rintro _ h3 n3 k3 rfl;simp[az];exact(aR ab.refl _).trans k3
 simp[A.b143,aS,aP,bA];refine ar (Fp (hx.ad (aR ab.refl (.cells [.int .i64 (Ah z),.slice i0 o0 l0 c0 1] 94 true)))) ?_;rintro _ h1 n1 k1 ⟨u,rfl,hu⟩;obtain⟨M,hM⟩:∃M,z.natAbs=M:=⟨_,rfl⟩;rw[hM]at hu hl;have hM0:M≠0:=by omega
 have lu:=hu.len;rw[bz]at lu;have kN:=(aR (ab.refl (h:=h) (n:=N)) (.cells [.int .i64 (Ah z),.slice i0 o0 l0 c0 1] 94 true)).trans k1;have kT:=aR (ab.refl (h:=h1) (n:=n1)) (.cells [.int .u64 1000000000000000000] 199 true);have hT:Wn (h1.set n1 (.cells [.int .u64 1000000000000000000] 199 true)) (n1+1) (.slice n1 0 1 (some 1) 1) 1000000000000000000:=by unfold Wn;rw[J7 (by decide) (by decide)];exact Sl.row (e:=199) (rw:=true) (L:=1) (by omega) (by simp[dg]) (by simp) (by simp)
 simp[ae];generalize kV:h1.set n1 (.cells [.int .u64 1000000000000000000] 199 true)=hB at*;have hPB:=(hP.ad kN).ad kT;refine b_ [(4,4),(6,9),(24,53)] (fun e r st=>e=.exit 0/\QU hB (n1+1) M 0 r st) (fun k r st=>k<=M/\QU hB (n1+1) M k r st) M ?_ ?_ ?_
 ·exact⟨aM _,by simp[ay],ab.refl,u,.aa,[],by simp,by simp,lu,fun _=>hu.ad kT,Own.nil,rfl⟩
 ·rintro m r st hr hf ⟨hm,J⟩;exact Yle hPB hl hm hT (by rw[hr 5 (by decide)];simp) hf J
 rintro e r ⟨H,n2,W⟩ hr ⟨rfl,hW,hK,u2,v,gs,a4,a6,_,_,ho,hg⟩;rw[Vw,zQ]at hg;subst hg;simp only at hW hK ho;have ij:=hK.le;have uM:=kN.le;have a3:r.get 3=some (.bool (decide (z<0))):=by rw[hr 3 (by decide)];simp
 have nJ:=Yuh hM0;have zy:(tW M).length<1000000000000:=oC Yis (by omega);have kK:(aq M).length<100000000000:=by rw[Ks hM0];exact hl
 have pL:Bd (H.set n2 (.cells [.bM,.aa] 217 true)) (n2+1) n2 []:=⟨xC _,.bM,.aa,by rw[T.ag,av rfl],.inl rfl,.inl ⟨rfl,rfl⟩⟩;by_cases hz:z<0
 ·have Bj:aN z=[45]++(tW M).reverse.flatten:=by unfold aN;rw[av hz,hM,nJ];rfl
  simp[a3,hz];refine BL (Ye2 (n0:=n1+1) ij pL (t:=[45]) (by decide) (by decide)) ?_;rintro _ ⟨H2,n3,W2⟩ ⟨hn,fY,zh,sM⟩;simp only at hn fY zh sM;subst hn;simp[];refine mO (Yfn (nB:=n1+1) (n0:=n1+1) (b:=n2) (hb:=H) (gs:=tW M) (pre:=[45]) (v:=v) ij (by rw[nJ];simp;omega) zy (fun s hs=>Yp7 hs) (by simp) ho (by simp[a6]) (by simp) (by rw[fY,hW]) (fun i hi=>by rw[zh i hi,T.ag,ak (by omega)]) sM) ?_;rintro e fr ⟨H6,n6,W6⟩ ⟨rfl,r6,rfl,g2,g3,g4,g5⟩;simp only at g3 g4 g5;have Lp:=MG (show N<=n1+1 by omega) g3;simp[g2,az,Lp,Bj];exact⟨by omega,fun i hi=>by rw[g4 i (by omega),hK.get i (by omega),<-kV,T.ag,ak (by omega),kN.get i hi]⟩
 have Bj:aN z=[]++(tW M).reverse.flatten:=by unfold aN;rw[ak hz,hM,nJ];rfl
 simp[a3,hz];refine mO (Yfn (nB:=n1+1) (n0:=n1+1) (b:=n2) (hb:=H) (gs:=tW M) (pre:=[]) (v:=v) ij (by rw[nJ];simp;omega) zy (fun s hs=>Yp7 hs) (by rw[List.nil_append,nJ];exact JM M) ho (by simp[a6]) (by simp) hW (fun i hi=>by rw[T.ag,ak (by omega)]) pL) ?_;rintro e fr ⟨H6,n6,W6⟩ ⟨rfl,r6,rfl,g2,g3,g4,g5⟩;simp only at g3 g4 g5;have Lp:=MG (show N<=n1+1 by omega) g3;simp[g2,az,Lp,Bj];exact⟨by omega,fun i hi=>by rw[g4 i (by omega),hK.get i (by omega),<-kV,T.ag,ak (by omega),kN.get i hi]⟩
end
end Go.Mx
