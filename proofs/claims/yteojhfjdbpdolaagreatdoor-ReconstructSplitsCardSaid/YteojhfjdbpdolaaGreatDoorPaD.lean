/-strings-/
import Derived.Test.YteojhfjdbpdolaaGreatDoorNbC
set_option linter.all false
namespace Go.Mx
noncomputable section
open Go Go.Proofs
variable {N i:Nat} {h:T O} {rw:Bool} {s:aQ}
set_option maxRecDepth 1000000
def A.b216:bU:=sr [ge 4 (.kh (.const (.str [])))]
 (.seq (sr [mv 7 0,ge 8 (.bin .eql (.bX .str) true (tq 7) (.const (.str []))),mv 9 8,mh 10 1 9,gz 11 9 (.bin .eql (.bX .str) true (tq 10) (.const (.str []))),pt 12 9 11]
 (cd 12
 (sr [mv 13 0,mv 4 13]
 (.ret))
 (.skip)))
 (.seq (sr [mv 14 1,ge 15 (.len 0 (tq 14)),ei 16 15 1,mv 17 16,mg 18 1 17,gy 19 17 (.bI (tq 18) (kq 0)),gy 20 17 (.bin .lss (.node []) false (tq 19) (.const (.int .u8 128))),pf 21 17 20]
 (cd 21
 (.seq (.du [mv 22 0,mv 23 1,ge 24 (.bI (tq 23) (kq 0)),c2 25 254 22 24,mv 26 1,ge 27 (.bI (tq 26) (kq 0)),c2 28 253 25 27,mv 4 28] [0,0,2,7,0,16,63,127])
 (.ret))
 (.skip)))
 (.seq (sr [mv 30 1,c1 31 255 30,mv 29 31,xt 32 29 0,xt 33 29 1,ge 5 (.alloc (oc 0) 243),gn (.store 256 (tq 5) (tq 32)),mv 6 33]
 (sr [mv 34 6]
 (cd 34
 (sr [mv 35 0,c2 36 257 35 5,c2 37 256 36 5,mv 4 37]
 (.ret))
 (.skip))))
 (sr [mv 38 0,mv 39 1,c2 40 259 38 39,mv 41 1,c2 42 258 40 41,mv 4 42]
 (.ret)))))
def A.k216:=@A.kk 216 43 [.tmp 4] A.b216 (by kernel_rfl) rfl
def A.rT:bU:=.seq (sr [mv 6 4,mv 7 0,ge 8 (.len 0 (tq 7)),bi 9 .lss 6 8]
 (cd 9
 (.skip)
 (.exit 0)))
 (.seq (.block 1 (sr [mv 12 0,mv 13 4,ge 14 (.bI (tq 12) (tq 13)),mv 5 14]
 (.seq (sr [mv 15 5,ge 16 (.bin .geq (.node []) false (tq 15) (.const (.int .u8 128)))]
 (cd 16
 (sr [lN 17 256 2,gn (.store 256 (tq 2) (tq 17)),ge 3 (.kh (.const (.bool false)))]
 (.ret))
 (.skip)))
 (.dN [mv 18 5,ge 19 (.gI 256 1 (tq 2) (tq 18)),gn (.store 1 (tq 19) (.const (.bool true)))]))))
 (.dN [mv 10 4,bc 11 .add 10 1,mv 4 11]))
def A.b255:bU:=sr [ge 2 (.alloc (oc 0) 243),ge 3 (.kh (.const (.bool false)))]
 (.seq (sr [mc 4 0]
 (.block 0 (.loop A.rT)))
 (sr [lN 20 256 2,gn (.store 256 (tq 2) (tq 20)),ge 3 (.kh (.const (.bool true)))]
 (.ret)))
def A.k255:=@A.kk 255 21 [.cell 2 (some 256),.tmp 3] A.b255 (by kernel_rfl) rfl
def A.NG:=A.q Tryz.f256
def A.nv:=A.ql A.NG 0 []
def A.b256:=(fun x0=>A.qb A.NG [x0]) A.nv
def A.k256:=@A.kk 256 16 [.tmp 4] A.b256 (by kernel_rfl) rfl
def A.NH:=A.q Tryz.f257
def A.nw:=A.ql A.NH 0 []
def A.b257:=(fun x0=>A.qb A.NH [x0]) A.nw
def A.k257:=@A.kk 257 22 [.tmp 4] A.b257 (by kernel_rfl) rfl
def A.b281:=A.q Tryz.f281
def A.k281:=@A.kk 281 10 [.tmp 4] A.b281 (by kernel_rfl) rfl
def A.b173:=A.q Tryz.f173
def A.k173:=@A.kk 173 19 [.tmp 2] A.b173 (by kernel_rfl) rfl
def Ya0:Fn A.C 255 [(.str [48,49,50,51,52,53,54,55,56,57])] h N (fun v _ _=>v=.aX [.agg (oc 10),.bool true]):=by
 intro w
 rw[aR,A.k255 (by simp)]
 simp[A.b255]
 refine bL [(3,19)] (fun e r st=>e=.exit 0/\st.n=N+1/\ax N st.w=[]/\ab h N st.h (N+1)/\st.h.get N=some (.cells (oc 10) 243 true)) (fun m r st=>st.n=N+1/\ax N st.w=[]/\ab h N st.h (N+1)/\∃k,m=10-k/\k<=10/\r.get 4=some (.int .i64 k)/\st.h.get N=some (.cells (oc k) 243 true)) 10 ?_ ?_ ?_
 ·exact⟨rfl,rfl,(ab.refl.set (aM _)).up (by omega),0,by omega,by omega,by simp,by simp⟩
 ·rintro m r ⟨H,n1,W⟩ hr hf ⟨hn,hW,hK,k,rfl,hk,h4,aq⟩
  simp only at hn hW hK aq
  subst hn
  rw[bl]
  by_cases ay:k<10
  ·obtain⟨c,hc,hcu⟩:=Ykt ay
   unfold WA at hc
   have a1:¬128<=cM c:=by omega
   have a2:cM c<256:=by omega
   have a3:0<=cM c:=by omega
   have a4:(cM c).toNat=48+k:=by omega
   have bb:(k:Int)<10:=by omega
   have hs:=Ylm ay
   have q1:=Ai k
   simp(disch:=first|(simp;done)|omega|(simp only[bA,cA,bo];omega)|rfl) [-getElem?_pos,A.rT,hr,hf,h4,bb,hc,a1,a2,a3,a4,hs,aq,hW]
   exact⟨_,by omega,hK.set (aM N),k+1,rfl,by omega,by simp,rfl⟩
  ·have:k=10:=by omega
   subst this
   simp[A.rT,hr,hf,h4,aq,hW]
   exact hK
 ·rintro e r ⟨H,n1,W⟩ hr ⟨rfl,hn,hW,hK,aq⟩
  simp only at hn hW hK aq
  subst hn
  have q1:=Ai 10
  simp[hr,aE,hW,aq,aO,aF,Ai,Zzl]
  exact hK.set (aM N)
def Zpc{c:UInt8}{w:List Nat}{e:TypeId}(hr:h.get i=some (.cells (oc 10) e rw)):A.C.call (.func 281 [] []) [.ptr i 0,.int .u8 (cM c)] ⟨h,N,w⟩=some (.bool (kj c),⟨h,N,w⟩):=by
 apply Call.eq
 rw[aR,A.k281 (by simp)]
 have hu:=Ycn c
 have e2:(oc 10)[(cM c).toNat]?=some (.bool (kj c)):=by
  rw[Ju (by omega),Wz]
  congr 2
  rw[decide_eq_decide];omega
 simp(disch:=omega) [A.b281,hr,hu,e2]
def Ykv{k:Nat}{c:UInt8}(hl:s.length=k+1)(hc:s[k]?=some c):cJ s=(cJ (s.take k)&&kj c):=by
 unfold cJ
 have:s=s.take k++[c]:=by
  conv=>lhs;rw[<-Cl k s]
  rw[my hc,yC (by omega)]
 conv=>lhs;rw[this]
 simp
def Ygi{s:aQ}{c:UInt8}(hc:s[0]?=some c):cJ s=(kj c&&cJ (s.drop 1)):=by
 cases s with
 |nil=>simp at hc
 |cons d s=>simp at hc;subst hc;rfl
def Yku{k:Nat}{c:UInt8}(hc:s[k]?=some c)(hd:kj c=false):cJ s=false:=by
 unfold cJ
 rw[List.all_eq_false]
 exact⟨c,cG hc,by simp[hd]⟩
def NI(s:aQ)(v:V):Prop:=∃t:aQ,v=.str t/\t.length<=s.length/\cJ t=cJ s/\(cJ s=true->t=[])
def Zs0{e:TypeId}(iS:h.get i=some (.cells (oc 10) e rw))(hl:s.length<4611686018427387904):Fn A.C 257 [.str s,.ptr i 0] h N (fun v _ _=>NI s v):=by
 intro w
 rw[aR,A.k257 (by simp)]
 simp[A.b257]
 refine bL [(0,0),(5,20)] (fun e r st=>e=.exit 0/\st=⟨h,N,[]⟩/\∃t:aQ,r.get 0=some (.str t)/\t.length<=s.length/\cJ t=cJ s/\(cJ s=true->t=[])) (fun m r st=>st=⟨h,N,[]⟩/\∃t:aQ,m=t.length/\t.length<=s.length/\r.get 0=some (.str t)/\cJ t=cJ s) s.length ?_ ?_ ?_
 ·exact⟨rfl,s,rfl,by omega,by simp,rfl⟩
 ·rintro m r _ hr hf ⟨rfl,t,rfl,hle,h0,ht⟩
  rw[bl]
  by_cases hz:t.length=0
  ·have:t=[]:=qE hz
   subst this
   simp[A.nw,hr,hf,h0,ht]
  ·obtain⟨k,hk⟩:∃k,t.length=k+1:=⟨t.length-1,by omega⟩
   obtain⟨c,hc⟩:=bk (l:=t) (k:=k) (by omega)
   have gE:(t.length:Int)=k+1:=by omega
   have uX:(0:Int)<(k:Int)+1:=by omega
   have bM:(k:Int)+1-1=k:=by omega
   have AT:=fun w=>Zpc (c:=c) (N:=N) (w:=w) iS
   by_cases hd:kj c=true
   ·simp(disch:=first|(simp;done)|omega|(simp only[bA,cA,bo];omega)|rfl) [-getElem?_pos,A.nw,hr,hf,h0,gE,uX,bM,hc,AT,hd,aB]
    exact⟨k,by omega,t.take k,by simp;omega,by simp;omega,rfl,by rw[<-ht,Ykv hk hc,hd];simp⟩
   ·have hd:kj c=false:=by simpa using hd
    simp(disch:=first|(simp;done)|omega|(simp only[bA,cA,bo];omega)|rfl) [-getElem?_pos,A.nw,hr,hf,h0,gE,uX,bM,hc,AT,hd,aB]
    have hq:=Yku hc hd
    rw[ht]at hq
    simp[hq,hle]
    rw[ht];exact hq
 ·rintro _ r _ hr ⟨rfl,rfl,t,h0,hle,ht,he⟩
  simp[hr,h0,aE,NI]
  exact⟨ab.refl,hle,ht,he⟩
def Zu4{e:TypeId}(iS:h.get i=some (.cells (oc 10) e rw))(hl:s.length<4611686018427387904):Fn A.C 256 [.str s,.ptr i 0] h N (fun v _ _=>NI s v):=by
 intro w
 rw[aR,A.k256 (by simp)]
 simp[A.b256]
 refine bL [(0,0),(5,14)] (fun e r st=>e=.exit 0/\st=⟨h,N,[]⟩/\∃t:aQ,r.get 0=some (.str t)/\t.length<=s.length/\cJ t=cJ s/\(cJ s=true->t=[])) (fun m r st=>st=⟨h,N,[]⟩/\∃t:aQ,m=t.length/\t.length<=s.length/\r.get 0=some (.str t)/\cJ t=cJ s) s.length ?_ ?_ ?_
 ·exact⟨rfl,s,rfl,by omega,by simp,rfl⟩
 ·rintro m r _ hr hf ⟨rfl,t,rfl,hle,h0,ht⟩
  rw[bl]
  by_cases hz:t.length=0
  ·have:t=[]:=qE hz
   subst this
   simp[A.nv,hr,hf,h0,ht]
  ·cases t with
   |nil=>simp at hz
   |cons c t=>
    have uX:(0:Int)<(t.length:Int)+1:=by omega
    have AT:=fun w=>Zpc (c:=c) (N:=N) (w:=w) iS
    have J7:=Ygi (s:=c::t) (c:=c) rfl
    by_cases hd:kj c=true
    ·simp(disch:=first|(simp;done)|omega|(simp only[bA,cA,bo];omega)|rfl) [A.nv,hr,hf,h0,uX,AT,hd,aB]
     simp only[bo]at hle
     rw[hd]at J7
     exact⟨t.length,by omega,t,rfl,by omega,rfl,by rw[<-ht,J7];rfl⟩
    ·have hd:kj c=false:=by simpa using hd
     simp[A.nv,hr,hf,h0,uX,AT,hd,aB]
     rw[hd]at J7
     rw[ht]at J7
     simp only[bo]at hle
     simp[J7,hle]
     rw[ht,J7];rfl
 ·rintro _ r _ hr ⟨rfl,rfl,t,h0,hle,ht,he⟩
  simp[hr,h0,aE,NI]
  exact⟨ab.refl,hle,ht,he⟩
def Zzw(hl:s.length<4611686018427387904):Fn A.C 216 [.str s,(.str [48,49,50,51,52,53,54,55,56,57])] h N (fun v _ _=>NI s v):=by
 intro w
 rw[aR,A.k216 (by simp)]
 by_cases he:s=[]
 ·subst he
  simp[A.b216,aG,aE]
  exact⟨ab.refl,[],rfl,aM _,rfl,fun _=>rfl⟩
 ·have e1:(s==[])=false:=by simp[he]
  have e2:s.isEmpty=false:=by simp[he]
  simp[A.b216,aG,e1,e2]
  refine aA Ya0 ?_
  rintro v h1 n1 k1 rfl
  have q1:=Ai 10
  simp[]
  refine aA (Zs0 (e:=243) (rw:=true) ?_ hl) ?_
  ·simp
  rintro v h2 n2 k2 ⟨t,rfl,hle,ht,hte⟩
  have pe:h2.get n1=some (.cells (oc 10) 243 true):=by
   rw[k2.get _ (by omega)]
   simp
  simp[]
  refine aA (Zu4 (e:=243) (rw:=true) pe (by omega)) ?_
  rintro v h3 n3 k3 ⟨u,rfl,zaP,hu,hue⟩
  have kk:ab h N h3 n3:=(((k1.set k1.le).set k1.le).up (uR n1)).trans (k2.trans k3)
  simp[aE]
  exact⟨k1.le,kk,u,rfl,by omega,by rw[hu,ht],fun h=>hue (by rw[ht];exact h)⟩
def Y5{s:aQ}{h:T O}{N:Nat}(hl:s.length<4611686018427387904):Fn A.C 173 [.str s] h N (fun v _ _=>v=.bool (iT s)):=by
 intro w
 rw[aR,A.k173 (by simp)]
 cases s with
 |nil=>simp[A.b173,aE,iT];exact ab.refl
 |cons c s=>
  simp[A.b173]
  refine aA (Zzw hl) ?_
  rintro v h1 n1 k1 ⟨t,rfl,hle,ht,hte⟩
  have hd:iT (c::s)=(cJ (c::s)&&(decide (cM c≠48)||decide (s=[]))):=by
   have:decide (c.toNat≠48)=decide (cM c≠48):=by unfold cM;rw[decide_eq_decide];omega
   simp only[iT,this];rfl
  by_cases ha:cJ (c::s)=true
  ·have:=hte ha
   subst this
   by_cases h0:cM c=48
   ·have hc:c=48:=by unfold cM at h0;exact UInt8.toNat_inj.1 (by show c.toNat=48;omega)
    subst hc
    simp[aG,hd,ha,h0,aE,k1]
    cases s<;>rfl
   ·simp[aG,hd,ha,h0,aE,k1]
  ·have ha:cJ (c::s)=false:=by simpa using ha
   rw[ha]at ht
   have e1:(t==[])=false:=by
    cases t with
    |nil=>cases ht
    |cons=>rfl
   have e2:t.isEmpty=false:=by
    cases t with
    |nil=>cases ht
    |cons=>rfl
   simp[aG,hd,ha,e1,e2,aE,k1]
def A.NJ:=A.q Tryz.f240
def A.rU:=A.ql A.NJ 0 []
def A.b240:=(fun x0=>A.qb A.NJ [x0]) A.rU
def A.k240:=@A.kk 240 77 [.tmp 2,.tmp 3] A.b240 (by kernel_rfl) rfl
def A.b204:=A.q Tryz.f204
def A.k204:=@A.kk 204 18 [.tmp 2,.tmp 3] A.b204 (by kernel_rfl) rfl
def Ykd{s:aQ}{h:T O}{N:Nat}(hd:cJ s=true)(h1:1<=s.length)(h2:s.length<=18):Fn A.C 240 [.str s] h N (fun v _ _=>v=.aX [.int .i64 (aH s:Nat),.a_]):=by
 intro w
 obtain⟨c,hc⟩:=bk (l:=s) (k:=0) (by omega)
 have pg:=Lg hd hc
 have a1:¬cM c=45:=by omega
 have a2:¬cM c=43:=by omega
 have a3:(0:Int)<(s.length:Int):=by omega
 have a5:(s.length:Int)<19:=by omega
 have fF:0<s.length:=by omega
 have aW:s≠[]:=fun h=>by rw[h]at h1;simp at h1
 have fy:s.head?=some c:=by cases s with
  |nil=>simp at hc
  |cons=>simpa using hc
 rw[aR,A.k240 (by simp)]
 by_cases a4:(s.length:Int)<10
 all_goals
  simp(disch:=first|(simp;done)|omega|(simp only[bA,cA,bo];omega)|rfl) [-getElem?_pos,A.b240,a3,a4,a5,aW,fF,fy,hc,aG,a1,a2]
  refine bL [(2,3),(6,6),(8,8),(49,63)] (fun e r st=>st.n=N+1/\ax N st.w=[]/\ab h N st.h (N+1)/\e=.exit 0/\r.get 6=some (.int .i64 (aH s:Nat))) (fun m r st=>st.n=N+1/\ax N st.w=[]/\ab h N st.h (N+1)/\st.h.get N=some (.cells (Hp s) 5 true)/\∃k,m=s.length-k/\k<=s.length/\r.get 49=some (.int .i64 k)/\r.get 6=some (.int .i64 (aH (s.take k):Nat))) s.length ?_ ?_ ?_
  ·exact⟨rfl,rfl,(ab.refl.set (aM _)).up (by omega),by simp,0,by omega,by omega,by simp,by simp[aH]⟩
  ·rintro m r ⟨H,n1,W⟩ hr hf ⟨hn,hW,hK,aq,k,rfl,hk,zu,h6⟩
   simp only at hn hW hK aq
   subst hn
   rw[bl]
   by_cases ay:k<s.length
   ·obtain⟨c,hc⟩:=bk ay
    have tr:=Lg hd hc
    have hb:=Yb4 hc
    have hv:=WB hc
    have ZM:=Qv hd k hk
    have rC:=Qw (a:=k) (b:=17) (by omega)
    have b1:¬9<cM c-48:=by omega
    have b2:bj .u8 (cM c-48)=cM c-48:=Bz (by omega) (by omega)
    have b3:((aH (s.take (k+1)):Nat):Int)=(aH (s.take k):Nat)*10+(cM c-48):=by
     rw[hv];unfold cM at*;omega
    have b4:((aH (s.take k):Nat):Int)<100000000000000000:=by
     have:(10:Nat)^17=100000000000000000:=by decide
     omega
    generalize hy:aH (s.take (k+1))=y at*
    generalize aH (s.take k)=x at*
    simp(disch:=first|(simp;done)|omega|(simp only[bA,cA,bo];omega)|rfl) [A.rU,hr,hf,zu,h6,ay,aq,hb,b1,b2,hW]
    exact⟨_,by omega,hK,k+1,rfl,by omega,by simp,by rw[hy,b3]⟩
   ·have:k=s.length:=by omega
    subst this
    simp[A.rU,hr,hf,zu,hW]
    rw[xU]at h6
    exact⟨hK,h6⟩
  ·rintro _ r ⟨H,n1,W⟩ hr ⟨hn,hW,hK,rfl,h6⟩
   simp only at hn hW hK
   subst hn
   simp[hr,aE,hW,hK,h6,fy,hc,aG,a1]
def Yrc{s:aQ}{h:T O}{N:Nat}(hd:cJ s=true)(h1:1<=s.length)(h2:s.length<=18):Fn A.C 204 [.str s] h N (fun v _ _=>v=.aX [.int .i64 (aH s:Nat),.a_]):=by
 intro w
 rw[aR,A.k204 (by simp)]
 simp[A.b204]
 refine aA (Ykd hd h1 h2) ?_
 rintro v h1 n1 k1 rfl
 simp[aG,aE,k1]
variable {M N a k o:Nat} {h:T O} {s:aQ}
set_option maxHeartbeats 2000000
def A.NK:=A.q Tryz.f205
def A.jU:=A.ql A.NK 0 []
def A.b205:=(fun x0=>A.qb A.NK [x0]) A.jU
def A.k205:=@A.kk 205 23 [.cell 4 (some 2)] A.b205 (by kernel_rfl) rfl
def A.NL:=A.q Tryz.f149
def A.nz:=A.ql A.NL 0 []
def A.b149:=(fun x0=>A.qb A.NL [x0]) A.nz
def A.k149:=@A.kk 149 41 [.cell 2 (some 2)] A.b149 (by kernel_rfl) rfl
def Yiz(h:o*a^k=M)(ha:1<=a)(ho:1<=o)(hk:1<=k):o*a<=M/\a<=M/\o<=M:=by
 have h1:a^1<=a^k:=qS ha hk
 rw[Nat.pow_one]at h1
 have h2:o*a<=o*a^k:=jr o h1
 have h3:1*a<=o*a:=jB a ho
 have h4:o*1<=o*a:=jr o ha
 omega
def Ysn(h:o*a^k=M)(ha:1<=a)(ho:1<=o)(hk:1<k):a*a<=M:=by
 have h1:a^2<=a^k:=qS ha hk
 have h2:1*a^k<=o*a^k:=jB _ ho
 have h3:a^2=a*a:=by rw[Nat.pow_two]
 omega
def Yso(h:o*a^k=M)(hk:k%2=1):(o*a)*(a*a)^(k/2)=M:=by
 rw[<-h,<-Nat.pow_two,<-Nat.pow_mul,D7]
 congr 1
 conv=>rhs;rw[show k=2*(k/2)+1 by omega,gg]
 rw[jb]
def Yol(h:o*a^k=M)(hk:k%2=0):o*(a*a)^(k/2)=M:=by
 rw[<-h,<-Nat.pow_two,<-Nat.pow_mul,show 2*(k/2)=k by omega]
structure R7 (h:T O) (N q M m:Nat) (r:T V) (st:St):Prop where
 w:ax N st.w=[]
 ae:ab h N st.h st.n
 q1:N+2<=q
 q2:q<st.n
 row:st.h.get (N+1)=some (.cells [.int .i64 0,.aa] 87 true)
 r1:r.get 1=some (.int .i64 m)
 lm:m<4611686018427387904
 ex:∃(n1 n2:Int) (u1 u2:V) (a o:Nat),st.h.get N=some (.cells [.int .i64 n1,u1] 87 true)/\st.h.get q=some (.cells [.int .i64 n2,u2] 87 true)/\In st.h st.n (.agg [.int .i64 n1,u1]) a/\In st.h st.n (.agg [.int .i64 n2,u2]) o/\o*a^m=M/\1<=a/\1<=o/\wl a<10000000000
def Yi1{q:Nat}{r0:T V}(hM:wl M<10000000000)(a2:r0.get 2=some (.ptr N 0))(a5:r0.get 5=some (.ptr q 0)):
  ∀x r st,(∀t,jP [(1,1),(7,21)] t=false->r.get t=r0.get t)->Fx [(1,1),(7,21)] r0 23 ⟨r,23,[]⟩->R7 h N q M x r st->Code A.C none A.jU ⟨r,23,[]⟩ st (Rd [(1,1),(7,21)] r0 23 (R7 h N q M) x (fun e r st=>e=.exit 0/\R7 h N q M 0 r st)):=by
 rintro m r ⟨H,n0,W⟩ hr hf ⟨hW,hK,qk,jo,aq,r1,lm,n1,n2,u1,u2,a,o,g0,g1,ha,ho,rQ,a1,o1,la⟩
 simp only at hW hK jo aq g0 g1 ha ho
 rw[bl]
 have b1:=Yln (k:=m) (by omega)
 have b2:=Yih (k:=m)
 by_cases h0:m=0
 ·subst h0
  simp[A.jU,hr,hf,r1]
  exact⟨hW,hK,qk,jo,aq,by simp[r1],by omega,n1,n2,u1,u2,a,o,g0,g1,ha,ho,rQ,a1,o1,la⟩
 ·have c1:(0:Int)<(m:Int):=by omega
  have c2:0<m:=by omega
  obtain⟨t1,t2,t3⟩:=Yiz rQ a1 o1 c2
  have lo:wl o<10000000000:=qP (HH (a:=(o:Int)) (b:=(M:Int)) (by omega)) hM
  have loa:wl ((o*a:Nat):Int)<10000000000:=qP (HH (a:=((o*a:Nat):Int)) (b:=(M:Int)) (by omega)) hM
  obtain⟨_,_,e5,o5⟩:=ha.cells
  simp only[V.agg.injEq,iQ,V.int.injEq,true_and,and_true]at e5
  obtain⟨rfl,rfl⟩:=e5
  unfold V.one at o5
  have ij:¬q<N:=by omega
  by_cases hp:m%2=1
  ·have p1:(m:Int)%2=1:=by omega
   simp[A.jU,hr,hf,r1,a2,a5,c1,c2,b1,b2,hp,p1,aG,g0,g1,aO,aF]
   refine aA (Dq ho ha (by omega) (by omega)) ?_
   rintro v h3 n3 k3 hv
   rw[<-Jf]at hv
   obtain⟨n6,u6,rfl,o6⟩:=hv.cells
   unfold V.one at o6
   have jj:=k3.le
   have f0:=(k3.get N (by omega)).trans g0
   have f1:=(k3.get q (by omega)).trans g1
   have f2:=(k3.get (N+1) (by omega)).trans aq
   have d1:¬N=q:=by omega
   have d2:¬N+1=q:=by omega
   have d3:¬q=N:=by omega
   have ZN:=(ha.ae k3).aK (c1:=[.int .i64 n6,u6]) (e1:=87) (w1:=true) f1 ho.nu rfl
   have J1:=hv.aK (c1:=[.int .i64 n6,u6]) (e1:=87) (w1:=true) f1 ho.nu rfl
   have ZO:(h3.set q (.cells [.int .i64 n6,u6] 87 true)).get N=some (.cells [.int .i64 n1,u1] 87 true):=by rw[T.ag,ak d1];exact f0
   have KO:(h3.set q (.cells [.int .i64 n6,u6] 87 true)).get q=some (.cells [.int .i64 n6,u6] 87 true):=by simp
   have PR:(h3.set q (.cells [.int .i64 n6,u6] 87 true)).get (N+1)=some (.cells [.int .i64 0,.aa] 87 true):=by rw[T.ag,ak d2];exact f2
   have kH:=(hK.trans k3).set (i:=q) (o:=.cells [.int .i64 n6,u6] 87 true) (by omega)
   by_cases xJ:1<m
   ·have p2:(1:Int)<(m:Int):=by omega
    have t4:=Ysn rQ a1 o1 xJ
    have ZP:wl ((a*a:Nat):Int)<10000000000:=qP (HH (a:=((a*a:Nat):Int)) (b:=(M:Int)) (by omega)) hM
    generalize hH:h3.set q (.cells [.int .i64 n6,u6] 87 true)=H3 at*
    simp[r1,hr,a2,a5,f0,f1,d1,d3,o6,ad,bC,xJ,p2,hH,ZO,KO,aO,aF]
    refine aA (Dq ZN ZN (by omega) (by omega)) ?_
    rintro v h4 n4 k4 Nr
    rw[<-Jf]at Nr
    obtain⟨n7,u7,rfl,o7⟩:=Nr.cells
    unfold V.one at o7
    have tN:=k4.le
    have e0:=(k4.get N (by omega)).trans ZO
    have e1:=(k4.get q (by omega)).trans KO
    have e2:=(k4.get (N+1) (by omega)).trans PR
    simp[r1,hr,hf,a2,e0,o7,ad,bC,b2]
    refine⟨m/2,by omega,by simp[ax,hW,ij],(kH.trans k4).set (aM _),qk,by show q<n4;omega,by simp[e2],by simp,by omega,n7,n6,u7,u6,a*a,o*a,by simp,by simp[d3,e1],Nr.aK e0 ha.nu rfl,(J1.ae k4).aK e0 ha.nu rfl,Yso rQ hp,yK a1 a1,yK o1 a1,ZP⟩
   ·have p2:¬(1:Int)<(m:Int):=by omega
    have m0:m/2=0:=by omega
    have m1':m=1:=by omega
    simp[r1,hr,hf,a2,a5,f0,f1,d1,d3,o6,ad,bC,xJ,p2,b2]
    refine⟨m/2,by omega,by simp[ax,hW,ij],kH,qk,by show q<n3;omega,PR,by simp,by omega,n1,n6,u1,u6,a,o*a,ZO,KO,ZN,J1,by rw[m0,<-rQ,m1'];simp,a1,yK o1 a1,la⟩
  ·have p1:¬(m:Int)%2=1:=by omega
   have p0:m%2=0:=by omega
   have p2:(1:Int)<(m:Int):=by omega
   have xJ:1<m:=by omega
   have t4:=Ysn rQ a1 o1 xJ
   have ZP:wl ((a*a:Nat):Int)<10000000000:=qP (HH (a:=((a*a:Nat):Int)) (b:=(M:Int)) (by omega)) hM
   simp[A.jU,hr,hf,r1,a2,a5,c1,c2,b1,b2,hp,p1,p2,xJ,aG,g0,g1,aO,aF]
   refine aA (Dq ha ha (by omega) (by omega)) ?_
   rintro v h3 n3 k3 hv
   rw[<-Jf]at hv
   obtain⟨n6,u6,rfl,o6⟩:=hv.cells
   unfold V.one at o6
   have jj:=k3.le
   have f0:=(k3.get N (by omega)).trans g0
   have f1:=(k3.get q (by omega)).trans g1
   have f2:=(k3.get (N+1) (by omega)).trans aq
   have d3:¬q=N:=by omega
   simp[r1,hr,hf,a2,f0,o6,ad,bC,b2]
   refine⟨m/2,by omega,by simp[ax,hW],(hK.trans k3).set (aM _),qk,by show q<n3;omega,by simp[f2],by simp,by omega,n6,n2,u6,u2,a*a,o,by simp,by simp[d3,f1],hv.aK f0 ha.nu rfl,(ho.ae k3).aK f0 ha.nu rfl,Yol rQ p0,yK a1 a1,o1,ZP⟩
def Ysq{x:V}(hx:In h N x a)(ha:1<=a)(hk:k<4611686018427387904)(la:wl a<10000000000)(hM:wl ((a^k:Nat):Int)<10000000000):Fn A.C 205 [x,.int .i64 k] h N (fun v h' n'=>In h' n' v ((a^k:Nat):Int)):=by
 intro w
 rw[aR,A.k205 (by simp)]
 obtain⟨n1,u1,rfl,o1⟩:=hx.cells
 have kk:=aN (aN (ab.refl (h:=h) (n:=N)) (.cells [.int .i64 n1,u1] 87 true)) (.cells [.int .i64 0,.aa] 87 true)
 have jn:=hx.ae kk
 unfold V.one at o1
 simp[A.b205,aO,aF,ad,o1]
 refine aA Hx ?_
 rintro _ h1 m1 k1 rfl
 have fu:=k1.le
 have g0:=k1.get N (by omega)
 have g1:=k1.get (N+1) (by omega)
 simp at g0 g1
 have Av:=jn.ae k1
 have d1:¬N=m1:=by omega
 have d2:¬N+1=m1:=by omega
 have ij:¬m1<N:=by omega
 have kE:=(aN (ab.refl (h:=h1) (n:=m1)) (.cells [.int .i64 0,.aa] 87 true)).set (i:=m1) (o:=.cells [.int .i64 1,.aa] 87 true) (aM _)
 simp[aO,aF,ad,bC]
 refine bL [(1,1),(7,21)] _ (R7 h N m1 (a^k)) k ?_ (Yi1 hM (by simp) (by simp)) ?_
 ·refine⟨by simp[ax,ij],((kk.trans k1).trans kE),by omega,by show m1<m1+1;omega,by simp[d2,g1],by simp,hk,n1,1,u1,.aa,a,1,by simp[d1,g0],by simp,Av.ae kE,In.small (by omega) (by omega),by simp,ha,by omega,la⟩
 rintro e r ⟨h5,m5,W5⟩ hr ⟨rfl,hW,hK,qk,jo,aq,r1,lm,n5,n6,u5,u6,a',o,g5,g6,ha5,jt,rQ,a1,o1',Fb⟩
 simp only at hW hK jo aq g5 g6 ha5 jt
 obtain⟨_,_,e5,o5⟩:=jt.cells
 simp only[V.agg.injEq,iQ,V.int.injEq,true_and,and_true]at e5
 obtain⟨rfl,rfl⟩:=e5
 unfold V.one at o5
 have he:(o:Int)=((a^k:Nat):Int):=by rw[<-rQ];simp
 rw[he]at jt
 have ij:¬N+1<N:=by omega
 simp[hr,g6,aq,aO,aF,ad,bC,o5,aE,hW,ij]
 exact⟨hK.set (by omega),jt.aK aq (by simp) rfl⟩
def Yee(x:aQ):∀(y:aQ),aH (x++y)=aH x*10^y.length+aH y:=by
 intro y
 generalize hn:y.length=n
 induction n generalizing y with
 |zero=>
  have:y=[]:=qE hn
  subst this;simp[aH]
 |succ n ih=>
  obtain⟨u,d,rfl⟩:∃u d,y=u++[d]:=⟨y.dropLast,y.getLast (by rintro rfl;simp at hn),(Qk _).symm⟩
  simp at hn
  rw[<-td,Lf,Lf,ih u hn,gg]
  grind
def Ff{n:Nat}(h:n<10^k):wl n<=k:=by
 unfold wl
 apply ZQ
 have:(10:Nat)^k<=B^k:=Gc (by decide) k
 simp;omega
def Zq9(h:cJ s=true)(k:Nat):cJ (s.take k)=true:=by
 unfold cJ at*
 rw[lB]at*
 exact fun x hx=>h x (wW hx)
def Yb7(h:cJ s=true)(k:Nat):cJ (s.drop k)=true:=by
 unfold cJ at*
 rw[lB]at*
 exact fun x hx=>h x (IQ hx)
structure R8 (h:T O) (N:Nat) (s:aQ) (m:Nat) (r:T V) (st:St):Prop where
 w:ax N st.w=[]
 ae:ab h N st.h st.n
 le:N+2<=st.n
 row:st.h.get N=some (.cells [.int .i64 0,.aa] 87 true)
 ex:∃(cur:aQ) (p:Nat) (n1:Int) (u1:V),r.get 0=some (.str cur)/\cur.length=m/\m<=s.length/\cJ cur=true/\st.h.get (N+1)=some (.cells [.int .i64 n1,u1] 87 true)/\In st.h st.n (.agg [.int .i64 n1,u1]) p/\aH s=p*10^m+aH cur
def Ydx{r0:T V}(hd:cJ s=true)(hl:s.length<=100000)(a4:r0.get 4=some (.ptr (N+1) 0)):
  ∀x r st,(∀t,jP [(0,0),(5,7),(13,36)] t=false->r.get t=r0.get t)->Fx [(0,0),(5,7),(13,36)] r0 41 ⟨r,41,[]⟩->R8 h N s x r st->Code A.C none A.nz ⟨r,41,[]⟩ st (Rd [(0,0),(5,7),(13,36)] r0 41 (R8 h N s) x (fun e r st=>e=.exit 0/\R8 h N s 0 r st)):=by
 rintro m r ⟨H,n0,W⟩ hr hf ⟨hW,hK,hle,aq,cur,p,n1,u1,iS,cN,hms,pg,g1,hp,hv⟩
 simp only at hW hK hle aq g1 hp
 rw[bl]
 by_cases h0:m=0
 ·subst h0
  have:cur=[]:=qE cN
  subst this
  simp[A.nz,hr,hf,iS]
  exact⟨hW,hK,hle,aq,[],p,n1,u1,by simp[iS],rfl,by omega,rfl,g1,hp,hv⟩
 ·obtain⟨n,hn⟩:∃n,n=min 18 m:=⟨_,rfl⟩
  have c1:0<cur.length:=by omega
  have c2:(0:Int)<(cur.length:Int):=by omega
  have c3:(if (cur.length:Int)<18 then (cur.length:Int) else 18)=(n:Int):=by split<;>omega
  have c4:(n:Int)<=(cur.length:Int):=by omega
  have pN:p<=aH s:=by
   rw[hv]
   have:p*1<=p*10^m:=jr p (z_ (by decide))
   omega
  have cC:=BA hd
  have lp:wl (p:Int)<=100000:=k_ (Ff (qP pN cC)) hl
  have zM:=fun (h:T O) (N:Nat)=>Yrc (s:=cur.take n) (h:=h) (N:=N) (Zq9 pg n) (by rw[gD];omega) (by rw[gD];omega)
  have l10:wl ((10:Nat):Int)<10000000000:=by decide+kernel
  have lpw:wl ((10^n:Nat):Int)<=19:=Ff (Nat.pow_lt_pow_right (by decide) (by omega))
  have Fj:=BA (Zq9 pg n)
  have htl:(cur.take n).length=n:=by rw[gD];omega
  rw[htl]at Fj
  have h18:(10:Nat)^n<=10^18:=qS (by decide) (by omega)
  have e18:(10:Nat)^18=1000000000000000000:=by decide
  have lnv:wl ((aH (cur.take n):Nat):Int)<=18:=k_ (Ff Fj) (by omega)
  simp[A.nz,hr,hf,iS,c1,c2,zc,Cs,yo,c3,c4,aB]
  refine aA (zM _ _) ?_
  rintro _ h1 m1 k1 rfl
  have fu:=k1.le
  have f1:=(k1.get (N+1) (by omega)).trans g1
  simp[a4,hr,f1,aO,aF]
  refine aA Hx ?_
  rintro _ h2 m2 k2 rfl
  have gY:=k2.le
  simp[]
  refine aA (Ysq (In.small (z:=(10:Nat)) (by omega) (by omega)) (by omega) (by omega) l10 (by omega)) ?_
  rintro vp h3 m3 k3 hvp
  have jj:=k3.le
  simp[]
  refine aA (Dq (((hp.ae k1).ae k2).ae k3) hvp (by omega) (by omega)) ?_
  rintro vm h4 m4 k4 hvm
  have tN:=k4.le
  have lm:=HZ (p:Int) ((10^n:Nat):Int)
  simp[]
  refine aA Hx ?_
  rintro _ h5 m5 k5 rfl
  have Ia:=k5.le
  simp[]
  refine aA (Ni (hvm.ae k5) (In.small (z:=((aH (cur.take n):Nat):Int)) (by omega) (by omega)) (by omega) (by omega)) ?_
  rintro va h6 m6 k6 ZR
  have zaQ:=k6.le
  have k26:=(((k2.trans k3).trans k4).trans k5).trans k6
  have e1:=(k26.get (N+1) (by omega)).trans f1
  have e2:=(k26.get N (by omega)).trans ((k1.get N (by omega)).trans aq)
  obtain⟨n6,u6,rfl,o6⟩:=ZR.cells
  unfold V.one at o6
  have z1:N+1<m1:=by omega
  have z2:N+1<m6:=by omega
  have z3:¬N+1<N:=by omega
  have z4:N+1<m5:=by omega
  simp[hr,hf,a4,iS,e1,o6,z1,z2,z4,ad,bC,aB,c4,ct.cv]
  have A8:(p:Int)*((10^n:Nat):Int)+((aH (cur.take n):Nat):Int)=((p*10^n+aH (cur.take n):Nat):Int):=by simp
  rw[A8]at ZR
  refine⟨m-n,by omega,by simp[ax,hW,z3],((hK.trans k1).trans k26).set (by omega),by show N+2<=m6;omega,by simp[e2],cur.drop n,p*10^n+aH (cur.take n),n6,u6,by simp,by rw[uQ];omega,by omega,Yb7 pg n,by simp,ZR.aK e1 hp.nu rfl,?_⟩
  have h1:=Yee (cur.take n) (cur.drop n)
  rw[Cl,uQ,cN]at h1
  rw[hv,h1,iZ,D7,<-ke,show n+(m-n)=m by omega]
  omega
def Ydy{s:aQ}{h:T O}{N:Nat}(hd:cJ (bn s)=true)(hl:(bn s).length<=100000):Fn A.C 149 [.str s] h N (fun v h' n'=>In h' n' v (if cK s=true then -(aH (bn s):Int) else (aH (bn s):Int))):=by
 intro w
 rw[aR,A.k149 (by simp)]
 simp[A.b149,Zt6,Zkj,aO,aF,ad]
 refine bL [(0,0),(5,7),(13,36)] _ (R8 h N (bn s)) (bn s).length ?_ (Ydx hd hl (by simp)) ?_
 ·have kk:=(aN (aN (ab.refl (h:=h) (n:=N)) (.cells [.int .i64 0,.aa] 87 true)) (.cells [.int .i64 0,.aa] 87 true)).set (i:=N+1) (o:=.cells [.int .i64 0,.aa] 87 true) (by omega)
  exact⟨by simp[ax],kk,aM _,by simp,bn s,0,0,.aa,by simp,rfl,aM _,hd,by simp,In.small (by omega) (by omega),by simp⟩
 rintro e r ⟨h5,m5,W5⟩ hr ⟨rfl,hW,hK,hle,aq,cur,p,n1,u1,iS,cN,hms,pg,g1,hp,hv⟩
 simp only at hW hK hle aq g1 hp
 have:cur=[]:=qE cN
 subst this
 have hv:aH (bn s)=p:=by rw[hv];simp[aH]
 have lp:wl (p:Int)<=100000:=by rw[<-hv];exact k_ (Ff (BA hd)) hl
 obtain⟨_,_,e5,o5⟩:=hp.cells
 simp only[V.agg.injEq,iQ,V.int.injEq,true_and,and_true]at e5
 obtain⟨rfl,rfl⟩:=e5
 unfold V.one at o5
 have ij:¬N<N:=by omega
 cases hn:cK s with
 |true=>
  simp[hr,hn,g1,aO,aF]
  refine aA (JV hp (by omega)) ?_
  rintro v h6 m6 k6 hv6
  obtain⟨n6,u6,rfl,o6⟩:=hv6.cells
  unfold V.one at o6
  have e0:=(k6.get N (by omega)).trans aq
  have ve:=k6.le
  simp[hr,e0,o6,aO,aF,ad,bC,aE,hW]
  exact⟨(hK.trans k6).set (aM _),by rw[hv];exact hv6.aK e0 (by simp) rfl⟩
 |false=>
  simp[hr,hn,g1,aq,o5,aO,aF,ad,bC,aE,hW]
  exact⟨hK.set (aM _),by rw[hv];exact hp.aK aq (by simp) rfl⟩
variable {N:Nat} {h:T O} {w:List Nat}
def A.w52:=A.q Tryz.f52
def A.rV:=A.ql A.w52 0 []
def A.b52:=(fun x0=>A.qb A.w52 [x0]) A.rV
def A.k52:=@A.kk 52 15 [.tmp 2] A.b52 (by kernel_rfl) rfl
def A.NM:=A.q Tryz.f174
def A.nA:=A.ql A.NM 0 []
def A.b174:=(fun x0=>A.qb A.NM [x0]) A.nA
def A.k174:=@A.kk 174 15 [.tmp 2] A.b174 (by kernel_rfl) rfl
def Ykj{v:V}{l:List Int}(hs:Sl h N v (dI l))(hl:l.length<1000):A.C.call (.func 52 [] []) [v] ⟨h,N,w⟩=some (.int .i64 (cF l),⟨h,N,w⟩):=by
 apply Call.eq
 have hlen:=hs.len
 rw[fZ]at hlen
 rw[aR,A.k52 (by simp)]
 simp[A.b52,hlen]
 refine bL [(2,2),(4,4),(7,14)] (fun e r st=>st=⟨h,N,[]⟩/\((e=.exit 0/\cF l=0)\/(e=.ret/\r.get 2=some (.int .i64 (cF l))))) (fun m r st=>st=⟨h,N,[]⟩/\∃k,m=l.length-k/\k<=l.length/\r.get 7=some (.int .i64 k)/\cF l=cF (l.drop k)) l.length ?_ ?_ ?_
 ·exact⟨rfl,0,by omega,by omega,by simp,by simp⟩
 ·rintro m r _ hr hf ⟨rfl,k,rfl,hk,h7,hz⟩
  rw[bl]
  by_cases ay:k<l.length
  ·obtain⟨c,hc⟩:=bk ay
   obtain⟨i,o,cc,e,rw,q1,q2,q3,q4⟩:=hs.at (fS hc)
   rw[my hc,cF]at hz
   have bM:(k:Int)<(l.length:Int):=by omega
   by_cases h0:c=0
   ·rw[av h0]at hz
    simp(disch:=first|(simp;done)|omega|(simp only[bA,cA,bo];omega)|rfl) [A.rV,hr,hf,h7,bM,ay,hlen,q1,q3,q4,aG,h0]
    exact⟨_,by omega,k+1,rfl,by omega,by simp,hz⟩
   ·rw[ak h0]at hz
    simp[A.rV,hr,hf,h7,bM,ay,hlen,q1,q3,q4,aG,h0,hz]
  ·have:l.drop k=[]:=yC (by omega)
   rw[this,cF]at hz
   have:k=l.length:=by omega
   subst this
   simp[A.rV,hr,hf,h7,hlen,hz]
 ·rintro _ r _ hr ⟨rfl,⟨rfl,hz⟩|⟨rfl,h2⟩⟩
  ·simp[hr,hz]
  ·simp[hr,h2]
def Yei{v:V}{l:List Int}(hs:Sl h N v (dI l))(hl:l.length<1000):A.C.call (.func 174 [] []) [v] ⟨h,N,w⟩=some (.int .i64 (cF l),⟨h,N,w⟩):=by
 apply Call.eq
 have hlen:=hs.len
 rw[fZ]at hlen
 rw[aR,A.k174 (by simp)]
 simp[A.b174,hlen]
 refine bL [(2,2),(4,4),(7,14)] (fun e r st=>st=⟨h,N,[]⟩/\((e=.exit 0/\cF l=0)\/(e=.ret/\r.get 2=some (.int .i64 (cF l))))) (fun m r st=>st=⟨h,N,[]⟩/\∃k,m=l.length-k/\k<=l.length/\r.get 7=some (.int .i64 k)/\cF l=cF (l.drop k)) l.length ?_ ?_ ?_
 ·exact⟨rfl,0,by omega,by omega,by simp,by simp⟩
 ·rintro m r _ hr hf ⟨rfl,k,rfl,hk,h7,hz⟩
  rw[bl]
  by_cases ay:k<l.length
  ·obtain⟨c,hc⟩:=bk ay
   obtain⟨i,o,cc,e,rw,q1,q2,q3,q4⟩:=hs.at (fS hc)
   rw[my hc,cF]at hz
   have bM:(k:Int)<(l.length:Int):=by omega
   by_cases h0:c=0
   ·rw[av h0]at hz
    simp(disch:=first|(simp;done)|omega|(simp only[bA,cA,bo];omega)|rfl) [A.nA,hr,hf,h7,bM,ay,hlen,q1,q3,q4,aG,h0]
    exact⟨_,by omega,k+1,rfl,by omega,by simp,hz⟩
   ·rw[ak h0]at hz
    simp[A.nA,hr,hf,h7,bM,ay,hlen,q1,q3,q4,aG,h0,hz]
  ·have:l.drop k=[]:=yC (by omega)
   rw[this,cF]at hz
   have:k=l.length:=by omega
   subst this
   simp[A.nA,hr,hf,h7,hlen,hz]
 ·rintro _ r _ hr ⟨rfl,⟨rfl,hz⟩|⟨rfl,h2⟩⟩
  ·simp[hr,hz]
  ·simp[hr,h2]
def HN{i:Nat}{a0 a1:Int}(hi:i<N):A.C.call (.func 174 [] []) [.slice i 0 2 (some 2) 1] ⟨h.set i (.cells [.int .i64 a0,.int .i64 a1] 28 true),N,w⟩=some (.int .i64 (cF [a0,a1]),⟨h.set i (.cells [.int .i64 a0,.int .i64 a1] 28 true),N,w⟩):=
 Yei (l:=[a0,a1]) (Sl.row (e:=28) (rw:=true) (cp:=some 2) hi (by simp[dI]) rfl (by simp)) (by simp)
def Yos{i:Nat}{a0 a1:Int}(hi:i<N):A.C.call (.func 52 [] []) [.slice i 0 2 (some 2) 1] ⟨h.set i (.cells [.int .i64 a0,.int .i64 a1] 28 true),N,w⟩=some (.int .i64 (cF [a0,a1]),⟨h.set i (.cells [.int .i64 a0,.int .i64 a1] 28 true),N,w⟩):=
 Ykj (l:=[a0,a1]) (Sl.row (e:=28) (rw:=true) (cp:=some 2) hi (by simp[dI]) rfl (by simp)) (by simp)
end
end Go.Mx
