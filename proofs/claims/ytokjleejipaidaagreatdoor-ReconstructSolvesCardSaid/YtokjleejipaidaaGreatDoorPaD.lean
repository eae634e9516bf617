/-strings-/
import Derived.Test.YtokjleejipaidaaGreatDoorNbC
set_option linter.all false
namespace Go.Mx
noncomputable section
open Go Go.Proofs
variable {N i:Nat} {h:T O} {rw:Bool} {s:aQ}
set_option maxRecDepth 1000000
def A.b235:bN:=sr [ge 4 (.jF (.const (.str [])))]
 (.seq (sr [mv 7 0,ge 8 (.bin .eql (.bI .str) true (tq 7) (.const (.str []))),mv 9 8,mh 10 1 9,gz 11 9 (.bin .eql (.bI .str) true (tq 10) (.const (.str []))),pt 12 9 11]
 (cd 12
 (sr [mv 13 0,mv 4 13]
 (.ret))
 (.skip)))
 (.seq (sr [mv 14 1,ge 15 (.len 0 (tq 14)),ei 16 15 1,mv 17 16,mg 18 1 17,gy 19 17 (.bJ (tq 18) (kq 0)),gy 20 17 (.bin .lss (.node []) false (tq 19) (.const (.int .u8 128))),pf 21 17 20]
 (cd 21
 (.seq (.dc [mv 22 0,mv 23 1,ge 24 (.bJ (tq 23) (kq 0)),c2 25 263 22 24,mv 26 1,ge 27 (.bJ (tq 26) (kq 0)),c2 28 262 25 27,mv 4 28] [0,0,2,7,0,16,63,127])
 (.ret))
 (.skip)))
 (.seq (sr [mv 30 1,c1 31 264 30,mv 29 31,xt 32 29 0,xt 33 29 1,ge 5 (.alloc (oQ 0) 251),gn (.store 256 (tq 5) (tq 32)),mv 6 33]
 (sr [mv 34 6]
 (cd 34
 (sr [mv 35 0,c2 36 266 35 5,c2 37 265 36 5,mv 4 37]
 (.ret))
 (.skip))))
 (sr [mv 38 0,mv 39 1,c2 40 268 38 39,mv 41 1,c2 42 267 40 41,mv 4 42]
 (.ret)))))
def A.k235:=@A.kk 235 43 [.tmp 4] A.b235 (by kernel_rfl) rfl
def A.sF:bN:=.seq (sr [mv 6 4,mv 7 0,ge 8 (.len 0 (tq 7)),bi 9 .lss 6 8]
 (cd 9
 (.skip)
 (.exit 0)))
 (.seq (.block 1 (sr [mv 12 0,mv 13 4,ge 14 (.bJ (tq 12) (tq 13)),mv 5 14]
 (.seq (sr [mv 15 5,ge 16 (.bin .geq (.node []) false (tq 15) (.const (.int .u8 128)))]
 (cd 16
 (sr [lN 17 256 2,gn (.store 256 (tq 2) (tq 17)),ge 3 (.jF (.const (.bool false)))]
 (.ret))
 (.skip)))
 (.dN [mv 18 5,ge 19 (.h_ 256 1 (tq 2) (tq 18)),gn (.store 1 (tq 19) (.const (.bool true)))]))))
 (.dN [mv 10 4,bc 11 .add 10 1,mv 4 11]))
def A.b264:bN:=sr [ge 2 (.alloc (oQ 0) 251),ge 3 (.jF (.const (.bool false)))]
 (.seq (sr [mc 4 0]
 (.block 0 (.loop A.sF)))
 (sr [lN 20 256 2,gn (.store 256 (tq 2) (tq 20)),ge 3 (.jF (.const (.bool true)))]
 (.ret)))
def A.k264:=@A.kk 264 21 [.cell 2 (some 256),.tmp 3] A.b264 (by kernel_rfl) rfl
def A.Oq:=A.q Tryz.f265
def A.nE:=A.ql A.Oq 0 []
def A.b265:=(fun x0=>A.qb A.Oq [x0]) A.nE
def A.k265:=@A.kk 265 16 [.tmp 4] A.b265 (by kernel_rfl) rfl
def A.Ot:=A.q Tryz.f266
def A.nF:=A.ql A.Ot 0 []
def A.b266:=(fun x0=>A.qb A.Ot [x0]) A.nF
def A.k266:=@A.kk 266 22 [.tmp 4] A.b266 (by kernel_rfl) rfl
def A.b287:=A.q Tryz.f287
def A.k287:=@A.kk 287 10 [.tmp 4] A.b287 (by kernel_rfl) rfl
def A.b191:=A.q Tryz.f191
def A.k191:=@A.kk 191 19 [.tmp 2] A.b191 (by kernel_rfl) rfl
def Yav:Fn A.C 264 [(.str [48,49,50,51,52,53,54,55,56,57])] h N (fun v _ _=>v=.aV [.agg (oQ 10),.bool true]):=by
 intro w
 rw[aM,A.k264 (by simp)]
 simp[A.b264]
 refine bA [(3,19)] (fun e r st=>e=.exit 0/\st.n=N+1/\ar N st.w=[]/\ab h N st.h (N+1)/\st.h.get N=some (.cells (oQ 10) 251 true)) (fun m r st=>st.n=N+1/\ar N st.w=[]/\ab h N st.h (N+1)/\∃k,m=10-k/\k<=10/\r.get 4=some (.int .i64 k)/\st.h.get N=some (.cells (oQ k) 251 true)) 10 ?_ ?_ ?_
 ·exact⟨rfl,rfl,(ab.refl.set (aO _)).up (by omega),0,by omega,by omega,by simp,by simp⟩
 ·rintro m r ⟨H,n1,W⟩ hr hf ⟨hn,hW,hK,k,rfl,hk,h4,al⟩
  simp only at hn hW hK al
  subst hn
  rw[bb]
  by_cases au:k<10
  ·obtain⟨c,hc,hcu⟩:=Ykq au
   unfold Xb at hc
   have a1:¬128<=cK c:=by omega
   have a2:cK c<256:=by omega
   have a3:0<=cK c:=by omega
   have a4:(cK c).toNat=48+k:=by omega
   have aS:(k:Int)<10:=by omega
   have hs:=Ylh au
   have q1:=AH k
   simp(disch:=first|(simp;done)|omega|(simp only[bB,cC,bo];omega)|rfl) [-getElem?_pos,A.sF,hr,hf,h4,aS,hc,a1,a2,a3,a4,hs,al,hW]
   exact⟨_,by omega,hK.set (aO N),k+1,rfl,by omega,by simp,rfl⟩
  ·have:k=10:=by omega
   subst this
   simp[A.sF,hr,hf,h4,al,hW]
   exact hK
 ·rintro e r ⟨H,n1,W⟩ hr ⟨rfl,hn,hW,hK,al⟩
  simp only at hn hW hK al
  subst hn
  have q1:=AH 10
  simp[hr,az,hW,al,aR,aC,AH,Zzf]
  exact hK.set (aO N)
def Zo9{c:UInt8}{w:List Nat}{e:TypeId}(hr:h.get i=some (.cells (oQ 10) e rw)):A.C.call (.func 287 [] []) [.ptr i 0,.int .u8 (cK c)] ⟨h,N,w⟩=some (.bool (kl c),⟨h,N,w⟩):=by
 apply Call.eq
 rw[aM,A.k287 (by simp)]
 have hu:=Ycl c
 have e2:(oQ 10)[(cK c).toNat]?=some (.bool (kl c)):=by
  rw[J6 (by omega),Xa]
  congr 2
  rw[decide_eq_decide];omega
 simp(disch:=omega) [A.b287,hr,hu,e2]
def Yks{k:Nat}{c:UInt8}(hl:s.length=k+1)(hc:s[k]?=some c):cI s=(cI (s.take k)&&kl c):=by
 unfold cI
 have:s=s.take k++[c]:=by
  conv=>lhs;rw[<-CT k s]
  rw[f_ hc,qh (by omega)]
 conv=>lhs;rw[this]
 simp
def Ygb{s:aQ}{c:UInt8}(hc:s[0]?=some c):cI s=(kl c&&cI (s.drop 1)):=by
 cases s with
 |nil=>simp at hc
 |cons d s=>simp at hc;subst hc;rfl
def Ykr{k:Nat}{c:UInt8}(hc:s[k]?=some c)(hd:kl c=false):cI s=false:=by
 unfold cI
 rw[List.all_eq_false]
 exact⟨c,bM hc,by simp[hd]⟩
def Ou(s:aQ)(v:V):Prop:=∃t:aQ,v=.str t/\t.length<=s.length/\cI t=cI s/\(cI s=true->t=[])
def Zs0{e:TypeId}(d_:h.get i=some (.cells (oQ 10) e rw))(hl:s.length<4611686018427387904):Fn A.C 266 [.str s,.ptr i 0] h N (fun v _ _=>Ou s v):=by
 intro w
 rw[aM,A.k266 (by simp)]
 simp[A.b266]
 refine bA [(0,0),(5,20)] (fun e r st=>e=.exit 0/\st=⟨h,N,[]⟩/\∃t:aQ,r.get 0=some (.str t)/\t.length<=s.length/\cI t=cI s/\(cI s=true->t=[])) (fun m r st=>st=⟨h,N,[]⟩/\∃t:aQ,m=t.length/\t.length<=s.length/\r.get 0=some (.str t)/\cI t=cI s) s.length ?_ ?_ ?_
 ·exact⟨rfl,s,rfl,by omega,by simp,rfl⟩
 ·rintro m r _ hr hf ⟨rfl,t,rfl,hle,h0,ht⟩
  rw[bb]
  by_cases hz:t.length=0
  ·have:t=[]:=rm hz
   subst this
   simp[A.nF,hr,hf,h0,ht]
  ·obtain⟨k,hk⟩:∃k,t.length=k+1:=⟨t.length-1,by omega⟩
   obtain⟨c,hc⟩:=a_ (l:=t) (k:=k) (by omega)
   have gS:(t.length:Int)=k+1:=by omega
   have kg:(0:Int)<(k:Int)+1:=by omega
   have bG:(k:Int)+1-1=k:=by omega
   have Bg:=fun w=>Zo9 (c:=c) (N:=N) (w:=w) d_
   by_cases hd:kl c=true
   ·simp(disch:=first|(simp;done)|omega|(simp only[bB,cC,bo];omega)|rfl) [-getElem?_pos,A.nF,hr,hf,h0,gS,kg,bG,hc,Bg,hd,aB]
    exact⟨k,by omega,t.take k,by simp;omega,by simp;omega,rfl,by rw[<-ht,Yks hk hc,hd];simp⟩
   ·have hd:kl c=false:=by simpa using hd
    simp(disch:=first|(simp;done)|omega|(simp only[bB,cC,bo];omega)|rfl) [-getElem?_pos,A.nF,hr,hf,h0,gS,kg,bG,hc,Bg,hd,aB]
    have hq:=Ykr hc hd
    rw[ht]at hq
    simp[hq,hle]
    rw[ht];exact hq
 ·rintro _ r _ hr ⟨rfl,rfl,t,h0,hle,ht,he⟩
  simp[hr,h0,az,Ou]
  exact⟨ab.refl,hle,ht,he⟩
def Zvb{e:TypeId}(d_:h.get i=some (.cells (oQ 10) e rw))(hl:s.length<4611686018427387904):Fn A.C 265 [.str s,.ptr i 0] h N (fun v _ _=>Ou s v):=by
 intro w
 rw[aM,A.k265 (by simp)]
 simp[A.b265]
 refine bA [(0,0),(5,14)] (fun e r st=>e=.exit 0/\st=⟨h,N,[]⟩/\∃t:aQ,r.get 0=some (.str t)/\t.length<=s.length/\cI t=cI s/\(cI s=true->t=[])) (fun m r st=>st=⟨h,N,[]⟩/\∃t:aQ,m=t.length/\t.length<=s.length/\r.get 0=some (.str t)/\cI t=cI s) s.length ?_ ?_ ?_
 ·exact⟨rfl,s,rfl,by omega,by simp,rfl⟩
 ·rintro m r _ hr hf ⟨rfl,t,rfl,hle,h0,ht⟩
  rw[bb]
  by_cases hz:t.length=0
  ·have:t=[]:=rm hz
   subst this
   simp[A.nE,hr,hf,h0,ht]
  ·cases t with
   |nil=>simp at hz
   |cons c t=>
    have kg:(0:Int)<(t.length:Int)+1:=by omega
    have Bg:=fun w=>Zo9 (c:=c) (N:=N) (w:=w) d_
    have KO:=Ygb (s:=c::t) (c:=c) rfl
    by_cases hd:kl c=true
    ·simp(disch:=first|(simp;done)|omega|(simp only[bB,cC,bo];omega)|rfl) [A.nE,hr,hf,h0,kg,Bg,hd,aB]
     simp only[bo]at hle
     rw[hd]at KO
     exact⟨t.length,by omega,t,rfl,by omega,rfl,by rw[<-ht,KO];rfl⟩
    ·have hd:kl c=false:=by simpa using hd
     simp[A.nE,hr,hf,h0,kg,Bg,hd,aB]
     rw[hd]at KO
     rw[ht]at KO
     simp only[bo]at hle
     simp[KO,hle]
     rw[ht,KO];rfl
 ·rintro _ r _ hr ⟨rfl,rfl,t,h0,hle,ht,he⟩
  simp[hr,h0,az,Ou]
  exact⟨ab.refl,hle,ht,he⟩
def Zzo(hl:s.length<4611686018427387904):Fn A.C 235 [.str s,(.str [48,49,50,51,52,53,54,55,56,57])] h N (fun v _ _=>Ou s v):=by
 intro w
 rw[aM,A.k235 (by simp)]
 by_cases he:s=[]
 ·subst he
  simp[A.b235,az]
  exact⟨ab.refl,[],rfl,aO _,rfl,fun _=>rfl⟩
 ·have e1:(s==[])=false:=by simp[he]
  have e2:s.isEmpty=false:=by simp[he]
  simp[A.b235,e1]
  refine ay Yav ?_
  rintro v h1 n1 k1 rfl
  have q1:=AH 10
  simp[]
  refine ay (Zs0 (e:=251) (rw:=true) ?_ hl) ?_
  ·simp
  rintro v h2 n2 k2 ⟨t,rfl,hle,ht,hte⟩
  have pO:h2.get n1=some (.cells (oQ 10) 251 true):=by
   rw[k2.get _ (by omega)]
   simp
  simp[]
  refine ay (Zvb (e:=251) (rw:=true) pO (by omega)) ?_
  rintro v h3 n3 k3 ⟨u,rfl,za5,hu,hue⟩
  have kk:ab h N h3 n3:=(((k1.set k1.le).set k1.le).up (vF n1)).trans (k2.trans k3)
  simp[az]
  exact⟨k1.le,kk,u,rfl,by omega,by rw[hu,ht],fun h=>hue (by rw[ht];exact h)⟩
def Zq{s:aQ}{h:T O}{N:Nat}(hl:s.length<4611686018427387904):Fn A.C 191 [.str s] h N (fun v _ _=>v=.bool (ja s)):=by
 intro w
 rw[aM,A.k191 (by simp)]
 cases s with
 |nil=>simp[A.b191,az,ja];exact ab.refl
 |cons c s=>
  simp[A.b191]
  refine ay (Zzo hl) ?_
  rintro v h1 n1 k1 ⟨t,rfl,hle,ht,hte⟩
  have hd:ja (c::s)=(cI (c::s)&&(decide (cK c≠48)||decide (s=[]))):=by
   have:decide (c.toNat≠48)=decide (cK c≠48):=by unfold cK;rw[decide_eq_decide];omega
   simp only[ja,this];rfl
  by_cases ha:cI (c::s)=true
  ·have:=hte ha
   subst this
   by_cases h0:cK c=48
   ·have hc:c=48:=by unfold cK at h0;exact UInt8.toNat_inj.1 (by show c.toNat=48;omega)
    subst hc
    simp[hd,ha,h0,az,k1]
    cases s<;>rfl
   ·simp[hd,ha,h0,az,k1]
  ·have ha:cI (c::s)=false:=by simpa using ha
   rw[ha]at ht
   have e1:(t==[])=false:=by
    cases t with
    |nil=>cases ht
    |cons=>rfl
   have e2:t.isEmpty=false:=by
    cases t with
    |nil=>cases ht
    |cons=>rfl
   simp[hd,ha,e1,az,k1]
def A.Ov:=A.q Tryz.f245
def A.sG:=A.ql A.Ov 0 []
def A.b245:=(fun x0=>A.qb A.Ov [x0]) A.sG
def A.k245:=@A.kk 245 77 [.tmp 2,.tmp 3] A.b245 (by kernel_rfl) rfl
def A.b208:=A.q Tryz.f208
def A.k208:=@A.kk 208 18 [.tmp 2,.tmp 3] A.b208 (by kernel_rfl) rfl
def Yka{s:aQ}{h:T O}{N:Nat}(hd:cI s=true)(h1:1<=s.length)(h2:s.length<=18):Fn A.C 245 [.str s] h N (fun v _ _=>v=.aV [.int .i64 (aF s:Nat),.aY]):=by
 intro w
 obtain⟨c,hc⟩:=a_ (l:=s) (k:=0) (by omega)
 have pP:=LY hd hc
 have a1:¬cK c=45:=by omega
 have a2:¬cK c=43:=by omega
 have a3:(0:Int)<(s.length:Int):=by omega
 have a5:(s.length:Int)<19:=by omega
 have gT:0<s.length:=by omega
 have aW:s≠[]:=fun h=>by rw[h]at h1;simp at h1
 have gl:s.head?=some c:=by cases s with
  |nil=>simp at hc
  |cons=>simpa using hc
 rw[aM,A.k245 (by simp)]
 by_cases a4:(s.length:Int)<10
 all_goals
  simp(disch:=first|(simp;done)|omega|(simp only[bB,cC,bo];omega)|rfl) [-getElem?_pos,A.b245,a5,gT,hc,a1,a2]
  refine bA [(2,3),(6,6),(8,8),(49,63)] (fun e r st=>st.n=N+1/\ar N st.w=[]/\ab h N st.h (N+1)/\e=.exit 0/\r.get 6=some (.int .i64 (aF s:Nat))) (fun m r st=>st.n=N+1/\ar N st.w=[]/\ab h N st.h (N+1)/\st.h.get N=some (.cells (Ib s) 5 true)/\∃k,m=s.length-k/\k<=s.length/\r.get 49=some (.int .i64 k)/\r.get 6=some (.int .i64 (aF (s.take k):Nat))) s.length ?_ ?_ ?_
  ·exact⟨rfl,rfl,(ab.refl.set (aO _)).up (by omega),by simp,0,by omega,by omega,by simp,by simp[aF]⟩
  ·rintro m r ⟨H,n1,W⟩ hr hf ⟨hn,hW,hK,al,k,rfl,hk,zW,h6⟩
   simp only at hn hW hK al
   subst hn
   rw[bb]
   by_cases au:k<s.length
   ·obtain⟨c,hc⟩:=a_ au
    have uf:=LY hd hc
    have hb:=Yb0 hc
    have hv:=Xc hc
    have EE:=Q6 hd k hk
    have pY:=Q7 (a:=k) (b:=17) (by omega)
    have b1:¬9<cK c-48:=by omega
    have b2:bh .u8 (cK c-48)=cK c-48:=B6 (by omega) (by omega)
    have b3:((aF (s.take (k+1)):Nat):Int)=(aF (s.take k):Nat)*10+(cK c-48):=by
     rw[hv];unfold cK at*;omega
    have b4:((aF (s.take k):Nat):Int)<100000000000000000:=by
     have:(10:Nat)^17=100000000000000000:=by decide
     omega
    generalize hy:aF (s.take (k+1))=y at*
    generalize aF (s.take k)=x at*
    simp(disch:=first|(simp;done)|omega|(simp only[bB,cC,bo];omega)|rfl) [A.sG,hr,hf,zW,h6,au,al,hb,b1,b2,hW]
    exact⟨_,by omega,hK,k+1,rfl,by omega,by simp,by rw[hy,b3]⟩
   ·have:k=s.length:=by omega
    subst this
    simp[A.sG,hr,hf,zW,hW]
    rw[xE]at h6
    exact⟨hK,h6⟩
  ·rintro _ r ⟨H,n1,W⟩ hr ⟨hn,hW,hK,rfl,h6⟩
   simp only at hn hW hK
   subst hn
   simp[hr,az,hW,hK,h6,hc,a1]
def Yrg{s:aQ}{h:T O}{N:Nat}(hd:cI s=true)(h1:1<=s.length)(h2:s.length<=18):Fn A.C 208 [.str s] h N (fun v _ _=>v=.aV [.int .i64 (aF s:Nat),.aY]):=by
 intro w
 rw[aM,A.k208 (by simp)]
 simp[A.b208]
 refine ay (Yka hd h1 h2) ?_
 rintro v h1 n1 k1 rfl
 simp[aJ,az,k1]
variable {M N a k o:Nat} {h:T O} {s:aQ}
set_option maxHeartbeats 2000000
def A.Ow:=A.q Tryz.f209
def A.jY:=A.ql A.Ow 0 []
def A.b209:=(fun x0=>A.qb A.Ow [x0]) A.jY
def A.k209:=@A.kk 209 23 [.cell 4 (some 2)] A.b209 (by kernel_rfl) rfl
def A.Ox:=A.q Tryz.f158
def A.nG:=A.ql A.Ox 0 []
def A.b158:=(fun x0=>A.qb A.Ox [x0]) A.nG
def A.k158:=@A.kk 158 41 [.cell 2 (some 2)] A.b158 (by kernel_rfl) rfl
def Yis(h:o*a^k=M)(ha:1<=a)(ho:1<=o)(hk:1<=k):o*a<=M/\a<=M/\o<=M:=by
 have h1:a^1<=a^k:=rJ ha hk
 rw[Nat.pow_one]at h1
 have h2:o*a<=o*a^k:=kO o h1
 have h3:1*a<=o*a:=ki a ho
 have h4:o*1<=o*a:=kO o ha
 omega
def Ysp(h:o*a^k=M)(ha:1<=a)(ho:1<=o)(hk:1<k):a*a<=M:=by
 have h1:a^2<=a^k:=rJ ha hk
 have h2:1*a^k<=o*a^k:=ki _ ho
 have h3:a^2=a*a:=by rw[Nat.pow_two]
 omega
def Ysq(h:o*a^k=M)(hk:k%2=1):(o*a)*(a*a)^(k/2)=M:=by
 rw[<-h,<-Nat.pow_two,<-Nat.pow_mul,EO]
 congr 1
 conv=>rhs;rw[show k=2*(k/2)+1 by omega,gw]
 rw[jg]
def Yol(h:o*a^k=M)(hk:k%2=0):o*(a*a)^(k/2)=M:=by
 rw[<-h,<-Nat.pow_two,<-Nat.pow_mul,show 2*(k/2)=k by omega]
structure SG (h:T O) (N q M m:Nat) (r:T V) (st:St):Prop where
 w:ar N st.w=[]
 ad:ab h N st.h st.n
 q1:N+2<=q
 q2:q<st.n
 row:st.h.get (N+1)=some (.cells [.int .i64 0,.aa] 106 true)
 r1:r.get 1=some (.int .i64 m)
 lm:m<4611686018427387904
 ex:∃(n1 n2:Int) (u1 u2:V) (a o:Nat),st.h.get N=some (.cells [.int .i64 n1,u1] 106 true)/\st.h.get q=some (.cells [.int .i64 n2,u2] 106 true)/\In st.h st.n (.agg [.int .i64 n1,u1]) a/\In st.h st.n (.agg [.int .i64 n2,u2]) o/\o*a^m=M/\1<=a/\1<=o/\wl a<10000000000
def Yiv{q:Nat}{r0:T V}(hM:wl M<10000000000)(a2:r0.get 2=some (.ptr N 0))(a5:r0.get 5=some (.ptr q 0)):
  ∀x r st,(∀t,jT [(1,1),(7,21)] t=false->r.get t=r0.get t)->Fx [(1,1),(7,21)] r0 23 ⟨r,23,[]⟩->SG h N q M x r st->Code A.C none A.jY ⟨r,23,[]⟩ st (Rd [(1,1),(7,21)] r0 23 (SG h N q M) x (fun e r st=>e=.exit 0/\SG h N q M 0 r st)):=by
 rintro m r ⟨H,n0,W⟩ hr hf ⟨hW,hK,qo,km,al,r1,lm,n1,n2,u1,u2,a,o,g0,g1,ha,ho,sE,a1,o1,la⟩
 simp only at hW hK km al g0 g1 ha ho
 rw[bb]
 have b1:=Yli (k:=m) (by omega)
 have b2:=Yia (k:=m)
 by_cases h0:m=0
 ·subst h0
  simp[A.jY,hr,hf,r1]
  exact⟨hW,hK,qo,km,al,by simp[r1],by omega,n1,n2,u1,u2,a,o,g0,g1,ha,ho,sE,a1,o1,la⟩
 ·have c1:(0:Int)<(m:Int):=by omega
  have c2:0<m:=by omega
  obtain⟨t1,t2,t3⟩:=Yis sE a1 o1 c2
  have lo:wl o<10000000000:=rK (Iv (a:=(o:Int)) (b:=(M:Int)) (by omega)) hM
  have loa:wl ((o*a:Nat):Int)<10000000000:=rK (Iv (a:=((o*a:Nat):Int)) (b:=(M:Int)) (by omega)) hM
  obtain⟨_,_,e5,o5⟩:=ha.cells
  simp only[V.agg.injEq,gU,V.int.injEq,true_and,and_true]at e5
  obtain⟨rfl,rfl⟩:=e5
  unfold V.one at o5
  have ix:¬q<N:=by omega
  by_cases hp:m%2=1
  ·have p1:(m:Int)%2=1:=by omega
   simp[A.jY,hr,hf,r1,a2,a5,c1,c2,b1,b2,hp,p1,aJ,g0,g1,aR,aC]
   refine ay (Be ho ha (by omega) (by omega)) ?_
   rintro v h3 n3 k3 hv
   rw[<-JS]at hv
   obtain⟨n6,u6,rfl,o6⟩:=hv.cells
   unfold V.one at o6
   have je:=k3.le
   have f0:=(k3.get N (by omega)).trans g0
   have f1:=(k3.get q (by omega)).trans g1
   have f2:=(k3.get (N+1) (by omega)).trans al
   have d1:¬N=q:=by omega
   have d2:¬N+1=q:=by omega
   have d3:¬q=N:=by omega
   have Z5:=(ha.ad k3).aH (c1:=[.int .i64 n6,u6]) (e1:=106) (w1:=true) f1 ho.nu rfl
   have Sq:=hv.aH (c1:=[.int .i64 n6,u6]) (e1:=106) (w1:=true) f1 ho.nu rfl
   have Z6:(h3.set q (.cells [.int .i64 n6,u6] 106 true)).get N=some (.cells [.int .i64 n1,u1] 106 true):=by rw[T.ag,ak d1];exact f0
   have Oy:(h3.set q (.cells [.int .i64 n6,u6] 106 true)).get q=some (.cells [.int .i64 n6,u6] 106 true):=by simp
   have SH:(h3.set q (.cells [.int .i64 n6,u6] 106 true)).get (N+1)=some (.cells [.int .i64 0,.aa] 106 true):=by rw[T.ag,ak d2];exact f2
   have kH:=(hK.trans k3).set (i:=q) (o:=.cells [.int .i64 n6,u6] 106 true) (by omega)
   by_cases ym:1<m
   ·have p2:(1:Int)<(m:Int):=by omega
    have t4:=Ysp sE a1 o1 ym
    have Z7:wl ((a*a:Nat):Int)<10000000000:=rK (Iv (a:=((a*a:Nat):Int)) (b:=(M:Int)) (by omega)) hM
    generalize hH:h3.set q (.cells [.int .i64 n6,u6] 106 true)=H3 at*
    simp[r1,hr,a2,a5,f0,f1,d1,d3,o6,ae,bD,ym,p2,hH,Z6,Oy,aR,aC]
    refine ay (Be Z5 Z5 (by omega) (by omega)) ?_
    rintro v h4 n4 k4 Oc
    rw[<-JS]at Oc
    obtain⟨n7,u7,rfl,o7⟩:=Oc.cells
    unfold V.one at o7
    have uE:=k4.le
    have e0:=(k4.get N (by omega)).trans Z6
    have e1:=(k4.get q (by omega)).trans Oy
    have e2:=(k4.get (N+1) (by omega)).trans SH
    simp[r1,hr,hf,a2,e0,o7,ae,bD,b2]
    refine⟨m/2,by omega,by simp[ar,hW,ix],(kH.trans k4).set (aO _),qo,by show q<n4;omega,by simp[e2],by simp,by omega,n7,n6,u7,u6,a*a,o*a,by simp,by simp[d3,e1],Oc.aH e0 ha.nu rfl,(Sq.ad k4).aH e0 ha.nu rfl,Ysq sE hp,zr a1 a1,zr o1 a1,Z7⟩
   ·have p2:¬(1:Int)<(m:Int):=by omega
    have m0:m/2=0:=by omega
    have m1':m=1:=by omega
    simp[r1,hr,hf,a2,a5,f0,f1,d1,d3,o6,ae,bD,ym,p2,b2]
    refine⟨m/2,by omega,by simp[ar,hW,ix],kH,qo,by show q<n3;omega,SH,by simp,by omega,n1,n6,u1,u6,a,o*a,Z6,Oy,Z5,Sq,by rw[m0,<-sE,m1'];simp,a1,zr o1 a1,la⟩
  ·have p1:¬(m:Int)%2=1:=by omega
   have p0:m%2=0:=by omega
   have p2:(1:Int)<(m:Int):=by omega
   have ym:1<m:=by omega
   have t4:=Ysp sE a1 o1 ym
   have Z7:wl ((a*a:Nat):Int)<10000000000:=rK (Iv (a:=((a*a:Nat):Int)) (b:=(M:Int)) (by omega)) hM
   simp[A.jY,hr,hf,r1,a2,a5,c1,c2,b1,b2,hp,p1,p2,ym,aJ,g0,g1,aR,aC]
   refine ay (Be ha ha (by omega) (by omega)) ?_
   rintro v h3 n3 k3 hv
   rw[<-JS]at hv
   obtain⟨n6,u6,rfl,o6⟩:=hv.cells
   unfold V.one at o6
   have je:=k3.le
   have f0:=(k3.get N (by omega)).trans g0
   have f1:=(k3.get q (by omega)).trans g1
   have f2:=(k3.get (N+1) (by omega)).trans al
   have d3:¬q=N:=by omega
   simp[r1,hr,hf,a2,f0,o6,ae,bD,b2]
   refine⟨m/2,by omega,by simp[ar,hW],(hK.trans k3).set (aO _),qo,by show q<n3;omega,by simp[f2],by simp,by omega,n6,n2,u6,u2,a*a,o,by simp,by simp[d3,f1],hv.aH f0 ha.nu rfl,(ho.ad k3).aH f0 ha.nu rfl,Yol sE p0,zr a1 a1,o1,Z7⟩
def Yss{x:V}(hx:In h N x a)(ha:1<=a)(hk:k<4611686018427387904)(la:wl a<10000000000)(hM:wl ((a^k:Nat):Int)<10000000000):Fn A.C 209 [x,.int .i64 k] h N (fun v h' n'=>In h' n' v ((a^k:Nat):Int)):=by
 intro w
 rw[aM,A.k209 (by simp)]
 obtain⟨n1,u1,rfl,o1⟩:=hx.cells
 have kk:=aN (aN (ab.refl (h:=h) (n:=N)) (.cells [.int .i64 n1,u1] 106 true)) (.cells [.int .i64 0,.aa] 106 true)
 have jv:=hx.ad kk
 unfold V.one at o1
 simp[A.b209,aR,aC,ae,o1]
 refine ay Il ?_
 rintro _ h1 m1 k1 rfl
 have eY:=k1.le
 have g0:=k1.get N (by omega)
 have g1:=k1.get (N+1) (by omega)
 simp at g0 g1
 have tS:=jv.ad k1
 have d1:¬N=m1:=by omega
 have d2:¬N+1=m1:=by omega
 have ix:¬m1<N:=by omega
 have kE:=(aN (ab.refl (h:=h1) (n:=m1)) (.cells [.int .i64 0,.aa] 106 true)).set (i:=m1) (o:=.cells [.int .i64 1,.aa] 106 true) (aO _)
 simp[aR,aC,ae,bD]
 refine bA [(1,1),(7,21)] _ (SG h N m1 (a^k)) k ?_ (Yiv hM (by simp) (by simp)) ?_
 ·refine⟨by simp[ar,ix],((kk.trans k1).trans kE),by omega,by show m1<m1+1;omega,by simp[d2,g1],by simp,hk,n1,1,u1,.aa,a,1,by simp[d1,g0],by simp,tS.ad kE,In.small (by omega) (by omega),by simp,ha,by omega,la⟩
 rintro e r ⟨h5,m5,W5⟩ hr ⟨rfl,hW,hK,qo,km,al,r1,lm,n5,n6,u5,u6,a',o,g5,g6,ha5,jx,sE,a1,o1',FY⟩
 simp only at hW hK km al g5 g6 ha5 jx
 obtain⟨_,_,e5,o5⟩:=jx.cells
 simp only[V.agg.injEq,gU,V.int.injEq,true_and,and_true]at e5
 obtain⟨rfl,rfl⟩:=e5
 unfold V.one at o5
 have he:(o:Int)=((a^k:Nat):Int):=by rw[<-sE];simp
 rw[he]at jx
 have ix:¬N+1<N:=by omega
 simp[hr,g6,al,aR,aC,ae,bD,o5,az,hW,ix]
 exact⟨hK.set (by omega),jx.aH al (by simp) rfl⟩
def Yea(x:aQ):∀(y:aQ),aF (x++y)=aF x*10^y.length+aF y:=by
 intro y
 generalize hn:y.length=n
 induction n generalizing y with
 |zero=>
  have:y=[]:=rm hn
  subst this;simp[aF]
 |succ n ih=>
  obtain⟨u,d,rfl⟩:∃u d,y=u++[d]:=⟨y.dropLast,y.getLast (by rintro rfl;simp at hn),(QC _).symm⟩
  simp at hn
  rw[<-tU,LX,LX,ih u hn,gw]
  grind
def F0{n:Nat}(h:n<10^k):wl n<=k:=by
 unfold wl
 apply Z8
 have:(10:Nat)^k<=B^k:=G5 (by decide) k
 simp;omega
def Zq1(h:cI s=true)(k:Nat):cI (s.take k)=true:=by
 unfold cI at*
 rw[me]at*
 exact fun x hx=>h x (yJ hx)
def Yb3(h:cI s=true)(k:Nat):cI (s.drop k)=true:=by
 unfold cI at*
 rw[me]at*
 exact fun x hx=>h x (JP hx)
structure SI (h:T O) (N:Nat) (s:aQ) (m:Nat) (r:T V) (st:St):Prop where
 w:ar N st.w=[]
 ad:ab h N st.h st.n
 le:N+2<=st.n
 row:st.h.get N=some (.cells [.int .i64 0,.aa] 106 true)
 ex:∃(cur:aQ) (p:Nat) (n1:Int) (u1:V),r.get 0=some (.str cur)/\cur.length=m/\m<=s.length/\cI cur=true/\st.h.get (N+1)=some (.cells [.int .i64 n1,u1] 106 true)/\In st.h st.n (.agg [.int .i64 n1,u1]) p/\aF s=p*10^m+aF cur
def Yds{r0:T V}(hd:cI s=true)(hl:s.length<=100000)(a4:r0.get 4=some (.ptr (N+1) 0)):
  ∀x r st,(∀t,jT [(0,0),(5,7),(13,36)] t=false->r.get t=r0.get t)->Fx [(0,0),(5,7),(13,36)] r0 41 ⟨r,41,[]⟩->SI h N s x r st->Code A.C none A.nG ⟨r,41,[]⟩ st (Rd [(0,0),(5,7),(13,36)] r0 41 (SI h N s) x (fun e r st=>e=.exit 0/\SI h N s 0 r st)):=by
 rintro m r ⟨H,n0,W⟩ hr hf ⟨hW,hK,hle,al,cur,p,n1,u1,d_,cO,hms,pP,g1,hp,hv⟩
 simp only at hW hK hle al g1 hp
 rw[bb]
 by_cases h0:m=0
 ·subst h0
  have:cur=[]:=rm cO
  subst this
  simp[A.nG,hr,hf,d_]
  exact⟨hW,hK,hle,al,[],p,n1,u1,by simp[d_],rfl,by omega,rfl,g1,hp,hv⟩
 ·obtain⟨n,hn⟩:∃n,n=min 18 m:=⟨_,rfl⟩
  have c1:0<cur.length:=by omega
  have c2:(0:Int)<(cur.length:Int):=by omega
  have c3:(if (cur.length:Int)<18 then (cur.length:Int) else 18)=(n:Int):=by split<;>omega
  have c4:(n:Int)<=(cur.length:Int):=by omega
  have vt:p<=aF s:=by
   rw[hv]
   have:p*1<=p*10^m:=kO p (Ay (by decide))
   omega
  have cD:=B7 hd
  have lp:wl (p:Int)<=100000:=p9 (F0 (rK vt cD)) hl
  have DZ:=fun (h:T O) (N:Nat)=>Yrg (s:=cur.take n) (h:=h) (N:=N) (Zq1 pP n) (by rw[gO];omega) (by rw[gO];omega)
  have l10:wl ((10:Nat):Int)<10000000000:=by decide+kernel
  have lpw:wl ((10^n:Nat):Int)<=19:=F0 (Nat.pow_lt_pow_right (by decide) (by omega))
  have F6:=B7 (Zq1 pP n)
  have htl:(cur.take n).length=n:=by rw[gO];omega
  rw[htl]at F6
  have h18:(10:Nat)^n<=10^18:=rJ (by decide) (by omega)
  have e18:(10:Nat)^18=1000000000000000000:=by decide
  have lnv:wl ((aF (cur.take n):Nat):Int)<=18:=p9 (F0 F6) (by omega)
  simp[A.nG,hr,hf,d_,c1,c2,zG,CX,yR,c3,c4,aB]
  refine ay (DZ _ _) ?_
  rintro _ h1 m1 k1 rfl
  have eY:=k1.le
  have f1:=(k1.get (N+1) (by omega)).trans g1
  simp[a4,hr,f1,aR,aC]
  refine ay Il ?_
  rintro _ h2 m2 k2 rfl
  have gI:=k2.le
  simp[]
  refine ay (Yss (In.small (z:=(10:Nat)) (by omega) (by omega)) (by omega) (by omega) l10 (by omega)) ?_
  rintro vp h3 m3 k3 hvp
  have je:=k3.le
  simp[]
  refine ay (Be (((hp.ad k1).ad k2).ad k3) hvp (by omega) (by omega)) ?_
  rintro vm h4 m4 k4 hvm
  have uE:=k4.le
  have lm:=DX (p:Int) ((10^n:Nat):Int)
  simp[]
  refine ay Il ?_
  rintro _ h5 m5 k5 rfl
  have IM:=k5.le
  simp[]
  refine ay (NV (hvm.ad k5) (In.small (z:=((aF (cur.take n):Nat):Int)) (by omega) (by omega)) (by omega) (by omega)) ?_
  rintro va h6 m6 k6 Z9
  have za6:=k6.le
  have k26:=(((k2.trans k3).trans k4).trans k5).trans k6
  have e1:=(k26.get (N+1) (by omega)).trans f1
  have e2:=(k26.get N (by omega)).trans ((k1.get N (by omega)).trans al)
  obtain⟨n6,u6,rfl,o6⟩:=Z9.cells
  unfold V.one at o6
  have z1:N+1<m1:=by omega
  have z2:N+1<m6:=by omega
  have z3:¬N+1<N:=by omega
  have z4:N+1<m5:=by omega
  simp[hr,hf,a4,d_,e1,o6,z1,z2,z4,ae,bD,aB,c4,cn.cr]
  have BF:(p:Int)*((10^n:Nat):Int)+((aF (cur.take n):Nat):Int)=((p*10^n+aF (cur.take n):Nat):Int):=by simp
  rw[BF]at Z9
  refine⟨m-n,by omega,by simp[ar,hW,z3],((hK.trans k1).trans k26).set (by omega),by show N+2<=m6;omega,by simp[e2],cur.drop n,p*10^n+aF (cur.take n),n6,u6,by simp,by rw[xF];omega,by omega,Yb3 pP n,by simp,Z9.aH e1 hp.nu rfl,?_⟩
  have h1:=Yea (cur.take n) (cur.drop n)
  rw[CT,xF,cO]at h1
  rw[hv,h1,iY,EO,<-kj,show n+(m-n)=m by omega]
  omega
def Ydt{s:aQ}{h:T O}{N:Nat}(hd:cI (bk s)=true)(hl:(bk s).length<=100000):Fn A.C 158 [.str s] h N (fun v h' n'=>In h' n' v (if cy s=true then -(aF (bk s):Int) else (aF (bk s):Int))):=by
 intro w
 rw[aM,A.k158 (by simp)]
 simp[A.b158,Zuc,Zkj,aR,aC,ae]
 refine bA [(0,0),(5,7),(13,36)] _ (SI h N (bk s)) (bk s).length ?_ (Yds hd hl (by simp)) ?_
 ·have kk:=(aN (aN (ab.refl (h:=h) (n:=N)) (.cells [.int .i64 0,.aa] 106 true)) (.cells [.int .i64 0,.aa] 106 true)).set (i:=N+1) (o:=.cells [.int .i64 0,.aa] 106 true) (by omega)
  exact⟨by simp[ar],kk,aO _,by simp,bk s,0,0,.aa,by simp,rfl,aO _,hd,by simp,In.small (by omega) (by omega),by simp⟩
 rintro e r ⟨h5,m5,W5⟩ hr ⟨rfl,hW,hK,hle,al,cur,p,n1,u1,d_,cO,hms,pP,g1,hp,hv⟩
 simp only at hW hK hle al g1 hp
 have:cur=[]:=rm cO
 subst this
 have hv:aF (bk s)=p:=by rw[hv];simp[aF]
 have lp:wl (p:Int)<=100000:=by rw[<-hv];exact p9 (F0 (B7 hd)) hl
 obtain⟨_,_,e5,o5⟩:=hp.cells
 simp only[V.agg.injEq,gU,V.int.injEq,true_and,and_true]at e5
 obtain⟨rfl,rfl⟩:=e5
 unfold V.one at o5
 have ix:¬N<N:=by omega
 cases hn:cy s with
 |true=>
  simp[hr,hn,g1,aR,aC]
  refine ay (KC hp (by omega)) ?_
  rintro v h6 m6 k6 hv6
  obtain⟨n6,u6,rfl,o6⟩:=hv6.cells
  unfold V.one at o6
  have e0:=(k6.get N (by omega)).trans al
  have ye:=k6.le
  simp[hr,e0,o6,aR,aC,ae,bD,az,hW]
  exact⟨(hK.trans k6).set (aO _),by rw[hv];exact hv6.aH e0 (by simp) rfl⟩
 |false=>
  simp[hr,hn,g1,al,o5,aR,aC,ae,bD,az,hW]
  exact⟨hK.set (aO _),by rw[hv];exact hp.aH al (by simp) rfl⟩
variable {N:Nat} {h:T O} {w:List Nat}
def A.w42:=A.q Tryz.f42
def A.sH:=A.ql A.w42 0 []
def A.b42:=(fun x0=>A.qb A.w42 [x0]) A.sH
def A.k42:=@A.kk 42 15 [.tmp 2] A.b42 (by kernel_rfl) rfl
def A.Oz:=A.q Tryz.f192
def A.nH:=A.ql A.Oz 0 []
def A.b192:=(fun x0=>A.qb A.Oz [x0]) A.nH
def A.k192:=@A.kk 192 15 [.tmp 2] A.b192 (by kernel_rfl) rfl
def Ykg{v:V}{l:List Int}(hs:Sl h N v (dI l))(hl:l.length<1000):A.C.call (.func 42 [] []) [v] ⟨h,N,w⟩=some (.int .i64 (bn l),⟨h,N,w⟩):=by
 apply Call.eq
 have hlen:=hs.len
 rw[gJ]at hlen
 rw[aM,A.k42 (by simp)]
 simp[A.b42,hlen]
 refine bA [(2,2),(4,4),(7,14)] (fun e r st=>st=⟨h,N,[]⟩/\((e=.exit 0/\bn l=0)\/(e=.ret/\r.get 2=some (.int .i64 (bn l))))) (fun m r st=>st=⟨h,N,[]⟩/\∃k,m=l.length-k/\k<=l.length/\r.get 7=some (.int .i64 k)/\bn l=bn (l.drop k)) l.length ?_ ?_ ?_
 ·exact⟨rfl,0,by omega,by omega,by simp,by simp⟩
 ·rintro m r _ hr hf ⟨rfl,k,rfl,hk,h7,hz⟩
  rw[bb]
  by_cases au:k<l.length
  ·obtain⟨c,hc⟩:=a_ au
   obtain⟨i,o,cc,e,rw,q1,q2,q3,q4⟩:=hs.at (gK hc)
   rw[f_ hc,bn]at hz
   have bG:(k:Int)<(l.length:Int):=by omega
   by_cases h0:c=0
   ·rw[ax h0]at hz
    simp(disch:=first|(simp;done)|omega|(simp only[bB,cC,bo];omega)|rfl) [A.sH,hr,hf,h7,bG,au,hlen,q1,q3,q4,aJ,h0]
    exact⟨_,by omega,k+1,rfl,by omega,by simp,hz⟩
   ·rw[ak h0]at hz
    simp[A.sH,hr,hf,h7,bG,au,hlen,q1,q3,q4,aJ,h0,hz]
  ·have:l.drop k=[]:=qh (by omega)
   rw[this,bn]at hz
   have:k=l.length:=by omega
   subst this
   simp[A.sH,hr,hf,h7,hlen,hz]
 ·rintro _ r _ hr ⟨rfl,⟨rfl,hz⟩|⟨rfl,h2⟩⟩
  ·simp[hr,hz]
  ·simp[hr,h2]
def Yee{v:V}{l:List Int}(hs:Sl h N v (dI l))(hl:l.length<1000):A.C.call (.func 192 [] []) [v] ⟨h,N,w⟩=some (.int .i64 (bn l),⟨h,N,w⟩):=by
 apply Call.eq
 have hlen:=hs.len
 rw[gJ]at hlen
 rw[aM,A.k192 (by simp)]
 simp[A.b192,hlen]
 refine bA [(2,2),(4,4),(7,14)] (fun e r st=>st=⟨h,N,[]⟩/\((e=.exit 0/\bn l=0)\/(e=.ret/\r.get 2=some (.int .i64 (bn l))))) (fun m r st=>st=⟨h,N,[]⟩/\∃k,m=l.length-k/\k<=l.length/\r.get 7=some (.int .i64 k)/\bn l=bn (l.drop k)) l.length ?_ ?_ ?_
 ·exact⟨rfl,0,by omega,by omega,by simp,by simp⟩
 ·rintro m r _ hr hf ⟨rfl,k,rfl,hk,h7,hz⟩
  rw[bb]
  by_cases au:k<l.length
  ·obtain⟨c,hc⟩:=a_ au
   obtain⟨i,o,cc,e,rw,q1,q2,q3,q4⟩:=hs.at (gK hc)
   rw[f_ hc,bn]at hz
   have bG:(k:Int)<(l.length:Int):=by omega
   by_cases h0:c=0
   ·rw[ax h0]at hz
    simp(disch:=first|(simp;done)|omega|(simp only[bB,cC,bo];omega)|rfl) [A.nH,hr,hf,h7,bG,hlen,q1,q3,q4,h0]
    exact⟨_,by omega,k+1,rfl,by omega,by simp,hz⟩
   ·rw[ak h0]at hz
    simp[A.nH,hr,hf,h7,bG,hlen,q1,q3,q4,h0,hz]
  ·have:l.drop k=[]:=qh (by omega)
   rw[this,bn]at hz
   have:k=l.length:=by omega
   subst this
   simp[A.nH,hr,hf,h7,hz]
 ·rintro _ r _ hr ⟨rfl,⟨rfl,hz⟩|⟨rfl,h2⟩⟩
  ·simp[hz]
  ·simp[h2]
def IA{i:Nat}{a0 a1:Int}(hi:i<N):A.C.call (.func 192 [] []) [.slice i 0 2 (some 2) 1] ⟨h.set i (.cells [.int .i64 a0,.int .i64 a1] 28 true),N,w⟩=some (.int .i64 (bn [a0,a1]),⟨h.set i (.cells [.int .i64 a0,.int .i64 a1] 28 true),N,w⟩):=
 Yee (l:=[a0,a1]) (Sl.row (e:=28) (rw:=true) (cp:=some 2) hi (by simp[dI]) rfl (by simp)) (by simp)
def Yor{i:Nat}{a0 a1:Int}(hi:i<N):A.C.call (.func 42 [] []) [.slice i 0 2 (some 2) 1] ⟨h.set i (.cells [.int .i64 a0,.int .i64 a1] 28 true),N,w⟩=some (.int .i64 (bn [a0,a1]),⟨h.set i (.cells [.int .i64 a0,.int .i64 a1] 28 true),N,w⟩):=
 Ykg (l:=[a0,a1]) (Sl.row (e:=28) (rw:=true) (cp:=some 2) hi (by simp[dI]) rfl (by simp)) (by simp)
end
end Go.Mx
