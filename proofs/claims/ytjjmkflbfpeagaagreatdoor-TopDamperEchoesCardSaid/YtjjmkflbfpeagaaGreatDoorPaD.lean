/-strings-/
import Derived.Test.YtjjmkflbfpeagaaGreatDoorNbC
set_option linter.all false
namespace Go.Mx
noncomputable section
open Go Go.Proofs
variable {N i:Nat} {h:T O} {rw:Bool} {s:aU}
set_option maxRecDepth 1000000
def A.b208:cj:=sr [ge 4 (.mF (.const (.str [])))]
 (.seq (sr [mv 7 0,ge 8 (.bin .eql (.cQ .str) true (tq 7) (.const (.str []))),mv 9 8,mh 10 1 9,gz 11 9 (.bin .eql (.cQ .str) true (tq 10) (.const (.str []))),pt 12 9 11]
 (cd 12
 (sr [mv 13 0,mv 4 13]
 (.ret))
 (.skip)))
 (.seq (sr [mv 14 1,ge 15 (.len 0 (tq 14)),ei 16 15 1,mv 17 16,mg 18 1 17,gy 19 17 (.bG (tq 18) (kq 0)),gy 20 17 (.bin .lss (.node []) false (tq 19) (.const (.int .u8 128))),pf 21 17 20]
 (cd 21
 (.seq (.fy [mv 22 0,mv 23 1,ge 24 (.bG (tq 23) (kq 0)),c2 25 240 22 24,mv 26 1,ge 27 (.bG (tq 26) (kq 0)),c2 28 239 25 27,mv 4 28] [0,0,2,7,0,16,63,127])
 (.ret))
 (.skip)))
 (.seq (sr [mv 30 1,c1 31 241 30,mv 29 31,xt 32 29 0,xt 33 29 1,ge 5 (.alloc (mZ 0) 268),gn (.store 256 (tq 5) (tq 32)),mv 6 33]
 (sr [mv 34 6]
 (cd 34
 (sr [mv 35 0,c2 36 243 35 5,c2 37 242 36 5,mv 4 37]
 (.ret))
 (.skip))))
 (sr [mv 38 0,mv 39 1,c2 40 245 38 39,mv 41 1,c2 42 244 40 41,mv 4 42]
 (.ret)))))
def A.k208:=@A.kk 208 43 [.tmp 4] A.b208 (by kernel_rfl) rfl
def A.pN:cj:=.seq (sr [mv 6 4,mv 7 0,ge 8 (.len 0 (tq 7)),bi 9 .lss 6 8]
 (cd 9
 (.skip)
 (.exit 0)))
 (.seq (.block 1 (sr [mv 12 0,mv 13 4,ge 14 (.bG (tq 12) (tq 13)),mv 5 14]
 (.seq (sr [mv 15 5,ge 16 (.bin .geq (.node []) false (tq 15) (.const (.int .u8 128)))]
 (cd 16
 (sr [lN 17 256 2,gn (.store 256 (tq 2) (tq 17)),ge 3 (.mF (.const (.bool false)))]
 (.ret))
 (.skip)))
 (.fL [mv 18 5,ge 19 (.gg 256 1 (tq 2) (tq 18)),gn (.store 1 (tq 19) (.const (.bool true)))]))))
 (.fL [mv 10 4,bc 11 .add 10 1,mv 4 11]))
def A.b241:cj:=sr [ge 2 (.alloc (mZ 0) 268),ge 3 (.mF (.const (.bool false)))]
 (.seq (sr [mc 4 0]
 (.block 0 (.loop A.pN)))
 (sr [lN 20 256 2,gn (.store 256 (tq 2) (tq 20)),ge 3 (.mF (.const (.bool true)))]
 (.ret)))
def A.k241:=@A.kk 241 21 [.cell 2 (some 256),.tmp 3] A.b241 (by kernel_rfl) rfl
def A.KX:=A.q Tryz.f242
def A.lV:=A.ql A.KX 0 []
def A.b242:=(fun x0=>A.qb A.KX [x0]) A.lV
def A.k242:=@A.kk 242 16 [.tmp 4] A.b242 (by kernel_rfl) rfl
def A.KY:=A.q Tryz.f243
def A.lW:=A.ql A.KY 0 []
def A.b243:=(fun x0=>A.qb A.KY [x0]) A.lW
def A.k243:=@A.kk 243 22 [.tmp 4] A.b243 (by kernel_rfl) rfl
def A.b267:=A.q Tryz.f267
def A.k267:=@A.kk 267 10 [.tmp 4] A.b267 (by kernel_rfl) rfl
def A.b161:=A.q Tryz.f161
def A.k161:=@A.kk 161 19 [.tmp 2] A.b161 (by kernel_rfl) rfl
def Zyc:Fn A.C 241 [(.str [48,49,50,51,52,53,54,55,56,57])] h N (fun v _ _=>v=.aY [.agg (mZ 10),.bool true]):=by
 intro w
 rw[aQ,A.k241 (by simp)]
 simp[A.b241]
 refine cX [(3,19)] (fun e r st=>e=.exit 0/\st.n=N+1/\aB N st.w=[]/\ad h N st.h (N+1)/\st.h.get N=some (.cells (mZ 10) 268 true)) (fun m r st=>st.n=N+1/\aB N st.w=[]/\ad h N st.h (N+1)/\∃k,m=10-k/\k<=10/\r.get 4=some (.int .i64 k)/\st.h.get N=some (.cells (mZ k) 268 true)) 10 ?_ ?_ ?_
 ·exact⟨rfl,rfl,(ad.refl.set (aR _)).up (by omega),0,by omega,by omega,by simp,by simp⟩
 ·rintro m r ⟨H,n1,W⟩ hr hf ⟨hn,hW,hK,k,rfl,hk,h4,aE⟩
  simp only at hn hW hK aE
  subst hn
  rw[cm]
  by_cases aO:k<10
  ·obtain⟨c,hc,hcu⟩:=Ygt aO
   unfold TR at hc
   have a1:¬128<=cJ c:=by omega
   have a2:cJ c<256:=by omega
   have a3:0<=cJ c:=by omega
   have a4:(cJ c).toNat=48+k:=by omega
   have dB:(k:Int)<10:=by omega
   have hs:=Yhc aO
   have q1:=yh k
   simp(disch:=first|(simp;done)|omega|(simp only[bn,bW,bf];omega)|rfl) [-getElem?_pos,A.pN,hr,hf,h4,dB,hc,a1,a2,a3,a4,hs,aE,hW]
   exact⟨_,by omega,hK.set (aR N),k+1,rfl,by omega,by simp,rfl⟩
  ·have:k=10:=by omega
   subst this
   simp[A.pN,hr,hf,h4,aE,hW]
   exact hK
 ·rintro e r ⟨H,n1,W⟩ hr ⟨rfl,hn,hW,hK,aE⟩
  simp only at hn hW hK aE
  subst hn
  have q1:=yh 10
  simp[hr,aA,hW,aE,aL,aM,yh,Zwt]
  exact hK.set (aR N)
def Znr{c:UInt8}{w:List Nat}{e:TypeId}(hr:h.get i=some (.cells (mZ 10) e rw)):A.C.call (.func 267 [] []) [.ptr i 0,.int .u8 (cJ c)] ⟨h,N,w⟩=some (.bool (jz c),⟨h,N,w⟩):=by
 apply Call.eq
 rw[aQ,A.k267 (by simp)]
 have hu:=Zz1 c
 have e2:(mZ 10)[(cJ c).toNat]?=some (.bool (jz c)):=by
  rw[Hd (by omega),Qk]
  congr 2
  rw[decide_eq_decide];omega
 simp(disch:=omega) [A.b267,hr,hu,e2]
def Ygv{k:Nat}{c:UInt8}(hl:s.length=k+1)(hc:s[k]?=some c):cF s=(cF (s.take k)&&jz c):=by
 unfold cF
 have:s=s.take k++[c]:=by
  conv=>lhs;rw[<-yW k s]
  rw[qm hc,w_ (by omega)]
 conv=>lhs;rw[this]
 simp
def Yc8{s:aU}{c:UInt8}(hc:s[0]?=some c):cF s=(jz c&&cF (s.drop 1)):=by
 cases s with
 |nil=>simp at hc
 |cons d s=>simp at hc;subst hc;rfl
def Ygu{k:Nat}{c:UInt8}(hc:s[k]?=some c)(hd:jz c=false):cF s=false:=by
 unfold cF
 rw[List.all_eq_false]
 exact⟨c,fW hc,by simp[hd]⟩
def KZ(s:aU)(v:V):Prop:=∃t:aU,v=.str t/\t.length<=s.length/\cF t=cF s/\(cF s=true->t=[])
def Zqn{e:TypeId}(jI:h.get i=some (.cells (mZ 10) e rw))(hl:s.length<4611686018427387904):Fn A.C 243 [.str s,.ptr i 0] h N (fun v _ _=>KZ s v):=by
 intro w
 rw[aQ,A.k243 (by simp)]
 simp[A.b243]
 refine cX [(0,0),(5,20)] (fun e r st=>e=.exit 0/\st=⟨h,N,[]⟩/\∃t:aU,r.get 0=some (.str t)/\t.length<=s.length/\cF t=cF s/\(cF s=true->t=[])) (fun m r st=>st=⟨h,N,[]⟩/\∃t:aU,m=t.length/\t.length<=s.length/\r.get 0=some (.str t)/\cF t=cF s) s.length ?_ ?_ ?_
 ·exact⟨rfl,s,rfl,by omega,by simp,rfl⟩
 ·rintro m r _ hr hf ⟨rfl,t,rfl,hle,h0,ht⟩
  rw[cm]
  by_cases hz:t.length=0
  ·have:t=[]:=pV hz
   subst this
   simp[A.lW,hf,h0,ht]
  ·obtain⟨k,hk⟩:∃k,t.length=k+1:=⟨t.length-1,by omega⟩
   obtain⟨c,hc⟩:=eA (l:=t) (k:=k) (by omega)
   have jE:(t.length:Int)=k+1:=by omega
   have rb:(0:Int)<(k:Int)+1:=by omega
   have ew:(k:Int)+1-1=k:=by omega
   have yC:=fun w=>Znr (c:=c) (N:=N) (w:=w) jI
   by_cases hd:jz c=true
   ·simp(disch:=first|(simp;done)|omega|(simp only[bn,bW,bf];omega)|rfl) [-getElem?_pos,A.lW,hr,hf,h0,jE,rb,ew,hc,yC,hd,az]
    exact⟨k,by omega,t.take k,by simp;omega,by simp;omega,rfl,by rw[<-ht,Ygv hk hc,hd];simp⟩
   ·have hd:jz c=false:=by simpa using hd
    simp(disch:=first|(simp;done)|omega|(simp only[bn,bW,bf];omega)|rfl) [-getElem?_pos,A.lW,hr,hf,h0,jE,rb,ew,hc,yC,hd,az]
    have hq:=Ygu hc hd
    rw[ht]at hq
    simp[hq,hle]
    rw[ht];exact hq
 ·rintro _ r _ hr ⟨rfl,rfl,t,h0,hle,ht,he⟩
  simp[h0,aA,KZ]
  exact⟨ad.refl,hle,ht,he⟩
def Zst{e:TypeId}(jI:h.get i=some (.cells (mZ 10) e rw))(hl:s.length<4611686018427387904):Fn A.C 242 [.str s,.ptr i 0] h N (fun v _ _=>KZ s v):=by
 intro w
 rw[aQ,A.k242 (by simp)]
 simp[A.b242]
 refine cX [(0,0),(5,14)] (fun e r st=>e=.exit 0/\st=⟨h,N,[]⟩/\∃t:aU,r.get 0=some (.str t)/\t.length<=s.length/\cF t=cF s/\(cF s=true->t=[])) (fun m r st=>st=⟨h,N,[]⟩/\∃t:aU,m=t.length/\t.length<=s.length/\r.get 0=some (.str t)/\cF t=cF s) s.length ?_ ?_ ?_
 ·exact⟨rfl,s,rfl,by omega,by simp,rfl⟩
 ·rintro m r _ hr hf ⟨rfl,t,rfl,hle,h0,ht⟩
  rw[cm]
  by_cases hz:t.length=0
  ·have:t=[]:=pV hz
   subst this
   simp[A.lV,hf,h0,ht]
  ·cases t with
   |nil=>simp at hz
   |cons c t=>
    have rb:(0:Int)<(t.length:Int)+1:=by omega
    have yC:=fun w=>Znr (c:=c) (N:=N) (w:=w) jI
    have Hr:=Yc8 (s:=c::t) (c:=c) rfl
    by_cases hd:jz c=true
    ·simp(disch:=first|(simp;done)|omega|(simp only[bn,bW,bf];omega)|rfl) [A.lV,hr,hf,h0,rb,yC,hd,az]
     simp only[bf]at hle
     rw[hd]at Hr
     exact⟨t.length,by omega,t,rfl,by omega,rfl,by rw[<-ht,Hr];rfl⟩
    ·have hd:jz c=false:=by simpa using hd
     simp[A.lV,hr,hf,h0,rb,yC,hd]
     rw[hd]at Hr
     rw[ht]at Hr
     simp only[bf]at hle
     simp[Hr,hle]
     rw[ht,Hr];rfl
 ·rintro _ r _ hr ⟨rfl,rfl,t,h0,hle,ht,he⟩
  simp[h0,aA,KZ]
  exact⟨ad.refl,hle,ht,he⟩
def Zw6(hl:s.length<4611686018427387904):Fn A.C 208 [.str s,(.str [48,49,50,51,52,53,54,55,56,57])] h N (fun v _ _=>KZ s v):=by
 intro w
 rw[aQ,A.k208 (by simp)]
 by_cases he:s=[]
 ·subst he
  simp[A.b208,aA]
  exact⟨ad.refl,[],rfl,aR _,rfl,fun _=>rfl⟩
 ·have e1:(s==[])=false:=by simp[he]
  have e2:s.isEmpty=false:=by simp[he]
  simp[A.b208,e1]
  refine au Zyc ?_
  rintro v h1 n1 k1 rfl
  have q1:=yh 10
  simp[]
  refine au (Zqn (e:=268) (rw:=true) ?_ hl) ?_
  ·simp
  rintro v h2 n2 k2 ⟨t,rfl,hle,ht,hte⟩
  have su:h2.get n1=some (.cells (mZ 10) 268 true):=by
   rw[k2.get _ (by omega)]
   simp
  simp[]
  refine au (Zst (e:=268) (rw:=true) su (by omega)) ?_
  rintro v h3 n3 k3 ⟨u,rfl,zaD,hu,hue⟩
  have kk:ad h N h3 n3:=(((k1.set k1.le).set k1.le).up (wC n1)).trans (k2.trans k3)
  simp[aA]
  exact⟨k1.le,kk,u,rfl,by omega,by rw[hu,ht],fun h=>hue (by rw[ht];exact h)⟩
def UT{s:aU}{h:T O}{N:Nat}(hl:s.length<4611686018427387904):Fn A.C 161 [.str s] h N (fun v _ _=>v=.bool (g_ s)):=by
 intro w
 rw[aQ,A.k161 (by simp)]
 cases s with
 |nil=>simp[A.b161,aA,g_];exact ad.refl
 |cons c s=>
  simp[A.b161]
  refine au (Zw6 hl) ?_
  rintro v h1 n1 k1 ⟨t,rfl,hle,ht,hte⟩
  have hd:g_ (c::s)=(cF (c::s)&&(decide (cJ c≠48)||decide (s=[]))):=by
   have:decide (c.toNat≠48)=decide (cJ c≠48):=by unfold cJ;rw[decide_eq_decide];omega
   simp only[g_,this];rfl
  by_cases ha:cF (c::s)=true
  ·have:=hte ha
   subst this
   by_cases h0:cJ c=48
   ·have hc:c=48:=by unfold cJ at h0;exact UInt8.toNat_inj.1 (by show c.toNat=48;omega)
    subst hc
    simp[hd,ha,h0,aA,k1]
    cases s<;>rfl
   ·simp[hd,ha,h0,aA,k1]
  ·have ha:cF (c::s)=false:=by simpa using ha
   rw[ha]at ht
   have e1:(t==[])=false:=by
    cases t with
    |nil=>cases ht
    |cons=>rfl
   have e2:t.isEmpty=false:=by
    cases t with
    |nil=>cases ht
    |cons=>rfl
   simp[hd,ha,e1,aA,k1]
def A.La:=A.q Tryz.f226
def A.pO:=A.ql A.La 0 []
def A.b226:=(fun x0=>A.qb A.La [x0]) A.pO
def A.k226:=@A.kk 226 77 [.tmp 2,.tmp 3] A.b226 (by kernel_rfl) rfl
def A.b186:=A.q Tryz.f186
def A.k186:=@A.kk 186 18 [.tmp 2,.tmp 3] A.b186 (by kernel_rfl) rfl
def Ygg{s:aU}{h:T O}{N:Nat}(hd:cF s=true)(h1:1<=s.length)(h2:s.length<=18):Fn A.C 226 [.str s] h N (fun v _ _=>v=.aY [.int .i64 (aD s:Nat),.aZ]):=by
 intro w
 obtain⟨c,hc⟩:=eA (l:=s) (k:=0) (by omega)
 have nE:=Hz hd hc
 have a1:¬cJ c=45:=by omega
 have a2:¬cJ c=43:=by omega
 have a3:(0:Int)<(s.length:Int):=by omega
 have a5:(s.length:Int)<19:=by omega
 have ud:0<s.length:=by omega
 have bK:s≠[]:=fun h=>by rw[h]at h1;simp at h1
 have ga:s.head?=some c:=by cases s with
  |nil=>simp at hc
  |cons=>simpa using hc
 rw[aQ,A.k226 (by simp)]
 by_cases a4:(s.length:Int)<10
 all_goals
  simp(disch:=first|(simp;done)|omega|(simp only[bn,bW,bf];omega)|rfl) [-getElem?_pos,A.b226,a3,a4,a5,bK,ud,ga,hc,aW,a1,a2]
  refine cX [(2,3),(6,6),(8,8),(49,63)] (fun e r st=>st.n=N+1/\aB N st.w=[]/\ad h N st.h (N+1)/\e=.exit 0/\r.get 6=some (.int .i64 (aD s:Nat))) (fun m r st=>st.n=N+1/\aB N st.w=[]/\ad h N st.h (N+1)/\st.h.get N=some (.cells (Ew s) 5 true)/\∃k,m=s.length-k/\k<=s.length/\r.get 49=some (.int .i64 k)/\r.get 6=some (.int .i64 (aD (s.take k):Nat))) s.length ?_ ?_ ?_
  ·exact⟨rfl,rfl,(ad.refl.set (aR _)).up (by omega),by simp,0,by omega,by omega,by simp,by simp[aD]⟩
  ·rintro m r ⟨H,n1,W⟩ hr hf ⟨hn,hW,hK,aE,k,rfl,hk,wW,h6⟩
   simp only at hn hW hK aE
   subst hn
   rw[cm]
   by_cases aO:k<s.length
   ·obtain⟨c,hc⟩:=eA aO
    have qo:=Hz hd hc
    have hb:=Zzl hc
    have hv:=Ql hc
    have Qm:=Mo hd k hk
    have oM:=Mp (a:=k) (b:=17) (by omega)
    have b1:¬9<cJ c-48:=by omega
    have b2:bb .u8 (cJ c-48)=cJ c-48:=zN (by omega) (by omega)
    have b3:((aD (s.take (k+1)):Nat):Int)=(aD (s.take k):Nat)*10+(cJ c-48):=by
     rw[hv];unfold cJ at*;omega
    have b4:((aD (s.take k):Nat):Int)<100000000000000000:=by
     have:(10:Nat)^17=100000000000000000:=by decide
     omega
    generalize hy:aD (s.take (k+1))=y at*
    generalize aD (s.take k)=x at*
    simp(disch:=first|(simp;done)|omega|(simp only[bn,bW,bf];omega)|rfl) [A.pO,hr,hf,wW,h6,aO,aE,hb,b1,b2,hW]
    exact⟨_,by omega,hK,k+1,rfl,by omega,by simp,by rw[hy,b3]⟩
   ·have:k=s.length:=by omega
    subst this
    simp[A.pO,hr,hf,wW,hW]
    rw[yN]at h6
    exact⟨hK,h6⟩
  ·rintro _ r ⟨H,n1,W⟩ hr ⟨hn,hW,hK,rfl,h6⟩
   simp only at hn hW hK
   subst hn
   simp[hr,aA,hW,hK,h6,hc,a1]
def Yl2{s:aU}{h:T O}{N:Nat}(hd:cF s=true)(h1:1<=s.length)(h2:s.length<=18):Fn A.C 186 [.str s] h N (fun v _ _=>v=.aY [.int .i64 (aD s:Nat),.aZ]):=by
 intro w
 rw[aQ,A.k186 (by simp)]
 simp[A.b186]
 refine au (Ygg hd h1 h2) ?_
 rintro v h1 n1 k1 rfl
 simp[aW,aA,k1]
variable {M N a k o:Nat} {h:T O} {s:aU}
set_option maxHeartbeats 2000000
def A.Lb:=A.q Tryz.f187
def A.jv:=A.ql A.Lb 0 []
def A.b187:=(fun x0=>A.qb A.Lb [x0]) A.jv
def A.k187:=@A.kk 187 23 [.cell 4 (some 2)] A.b187 (by kernel_rfl) rfl
def A.Lc:=A.q Tryz.f126
def A.lY:=A.ql A.Lc 0 []
def A.b126:=(fun x0=>A.qb A.Lc [x0]) A.lY
def A.k126:=@A.kk 126 41 [.cell 2 (some 2)] A.b126 (by kernel_rfl) rfl
def Yff(h:o*a^k=M)(ha:1<=a)(ho:1<=o)(hk:1<=k):o*a<=M/\a<=M/\o<=M:=by
 have h1:a^1<=a^k:=nY ha hk
 rw[Nat.pow_one]at h1
 have h2:o*a<=o*a^k:=iT o h1
 have h3:1*a<=o*a:=kp a ho
 have h4:o*1<=o*a:=iT o ha
 omega
def Ym2(h:o*a^k=M)(ha:1<=a)(ho:1<=o)(hk:1<k):a*a<=M:=by
 have h1:a^2<=a^k:=nY ha hk
 have h2:1*a^k<=o*a^k:=kp _ ho
 have h3:a^2=a*a:=by rw[Nat.pow_two]
 omega
def Ym3(h:o*a^k=M)(hk:k%2=1):(o*a)*(a*a)^(k/2)=M:=by
 rw[<-h,<-Nat.pow_two,<-Nat.pow_mul,tZ]
 congr 1
 conv=>rhs;rw[show k=2*(k/2)+1 by omega,fv]
 rw[fR]
def Yjt(h:o*a^k=M)(hk:k%2=0):o*(a*a)^(k/2)=M:=by
 rw[<-h,<-Nat.pow_two,<-Nat.pow_mul,show 2*(k/2)=k by omega]
structure O0 (h:T O) (N q M m:Nat) (r:T V) (st:St):Prop where
 w:aB N st.w=[]
 ae:ad h N st.h st.n
 q1:N+2<=q
 q2:q<st.n
 row:st.h.get (N+1)=some (.cells [.int .i64 0,.aa] 70 true)
 r1:r.get 1=some (.int .i64 m)
 lm:m<4611686018427387904
 ex:∃(n1 n2:Int) (u1 u2:V) (a o:Nat),st.h.get N=some (.cells [.int .i64 n1,u1] 70 true)/\st.h.get q=some (.cells [.int .i64 n2,u2] 70 true)/\In st.h st.n (.agg [.int .i64 n1,u1]) a/\In st.h st.n (.agg [.int .i64 n2,u2]) o/\o*a^m=M/\1<=a/\1<=o/\wl a<10000000000
def Yfi{q:Nat}{r0:T V}(hM:wl M<10000000000)(a2:r0.get 2=some (.ptr N 0))(a5:r0.get 5=some (.ptr q 0)):
  ∀x r st,(∀t,jk [(1,1),(7,21)] t=false->r.get t=r0.get t)->Fx [(1,1),(7,21)] r0 23 ⟨r,23,[]⟩->O0 h N q M x r st->Code A.C none A.jv ⟨r,23,[]⟩ st (Rd [(1,1),(7,21)] r0 23 (O0 h N q M) x (fun e r st=>e=.exit 0/\O0 h N q M 0 r st)):=by
 rintro m r ⟨H,n0,W⟩ hr hf ⟨hW,hK,pX,jZ,aE,r1,lm,n1,n2,u1,u2,a,o,g0,g1,ha,ho,sA,a1,o1,la⟩
 simp only at hW hK jZ aE g0 g1 ha ho
 rw[cm]
 have b1:=Yhd (k:=m) (by omega)
 have b2:=Ye0 (k:=m)
 by_cases h0:m=0
 ·subst h0
  simp[A.jv,hf,r1]
  exact⟨hW,hK,pX,jZ,aE,by simp[r1],by omega,n1,n2,u1,u2,a,o,g0,g1,ha,ho,sA,a1,o1,la⟩
 ·have c1:(0:Int)<(m:Int):=by omega
  have c2:0<m:=by omega
  obtain⟨t1,t2,t3⟩:=Yff sA a1 o1 c2
  have lo:wl o<10000000000:=mr (Hn (a:=(o:Int)) (b:=(M:Int)) (by omega)) hM
  obtain⟨_,_,e5,o5⟩:=ha.cells
  simp only[V.agg.injEq,iB,V.int.injEq,true_and,and_true]at e5
  obtain⟨rfl,rfl⟩:=e5
  unfold V.one at o5
  have kQ:¬q<N:=by omega
  by_cases hp:m%2=1
  ·have p1:(m:Int)%2=1:=by omega
   simp[A.jv,hr,r1,a2,a5,c2,b1,hp,g0,g1,aL,aM]
   refine au (yy ho ha (by omega) (by omega)) ?_
   rintro v h3 n3 k3 hv
   rw[<-GA]at hv
   obtain⟨n6,u6,rfl,o6⟩:=hv.cells
   unfold V.one at o6
   have mm:=k3.le
   have f0:=(k3.get N (by omega)).trans g0
   have f1:=(k3.get q (by omega)).trans g1
   have f2:=(k3.get (N+1) (by omega)).trans aE
   have d1:¬N=q:=by omega
   have d2:¬N+1=q:=by omega
   have d3:¬q=N:=by omega
   have Vy:=(ha.ae k3).aC (c1:=[.int .i64 n6,u6]) (e1:=70) (w1:=true) f1 ho.nu rfl
   have Ga:=hv.aC (c1:=[.int .i64 n6,u6]) (e1:=70) (w1:=true) f1 ho.nu rfl
   have Vz:(h3.set q (.cells [.int .i64 n6,u6] 70 true)).get N=some (.cells [.int .i64 n1,u1] 70 true):=by rw[T.ai,aq d1];exact f0
   have f1':(h3.set q (.cells [.int .i64 n6,u6] 70 true)).get q=some (.cells [.int .i64 n6,u6] 70 true):=by simp
   have f2':(h3.set q (.cells [.int .i64 n6,u6] 70 true)).get (N+1)=some (.cells [.int .i64 0,.aa] 70 true):=by rw[T.ai,aq d2];exact f2
   have kH:=(hK.trans k3).set (i:=q) (o:=.cells [.int .i64 n6,u6] 70 true) (by omega)
   by_cases yv:1<m
   ·have p2:(1:Int)<(m:Int):=by omega
    have t4:=Ym2 sA a1 o1 yv
    have VA:wl ((a*a:Nat):Int)<10000000000:=mr (Hn (a:=((a*a:Nat):Int)) (b:=(M:Int)) (by omega)) hM
    generalize hH:h3.set q (.cells [.int .i64 n6,u6] 70 true)=H3 at*
    simp[r1,hr,a2,a5,f1,o6,ag,bS,p2,hH,Vz,aL,aM]
    refine au (yy Vy Vy (by omega) (by omega)) ?_
    rintro v h4 n4 k4 CU
    rw[<-GA]at CU
    obtain⟨n7,u7,rfl,o7⟩:=CU.cells
    unfold V.one at o7
    have tj:=k4.le
    have e0:=(k4.get N (by omega)).trans Vz
    have e1:=(k4.get q (by omega)).trans f1'
    have e2:=(k4.get (N+1) (by omega)).trans f2'
    simp[r1,hr,hf,a2,e0,o7,ag,bS,b2]
    refine⟨m/2,by omega,by simp[aB,hW,kQ],(kH.trans k4).set (aR _),pX,by show q<n4;omega,by simp[e2],by simp,by omega,n7,n6,u7,u6,a*a,o*a,by simp,by simp[d3,e1],CU.aC e0 ha.nu rfl,(Ga.ae k4).aC e0 ha.nu rfl,Ym3 sA hp,sh a1 a1,sh o1 a1,VA⟩
   ·have p2:¬(1:Int)<(m:Int):=by omega
    have m0:m/2=0:=by omega
    have QO:m=1:=by omega
    simp[r1,hr,hf,a5,f1,o6,ag,bS,p2,b2]
    refine⟨m/2,by omega,by simp[aB,hW,kQ],kH,pX,by show q<n3;omega,f2',by simp,by omega,n1,n6,u1,u6,a,o*a,Vz,f1',Vy,Ga,by rw[m0,<-sA,QO];simp,a1,sh o1 a1,la⟩
  ·have p1:¬(m:Int)%2=1:=by omega
   have p0:m%2=0:=by omega
   have p2:(1:Int)<(m:Int):=by omega
   have yv:1<m:=by omega
   have t4:=Ym2 sA a1 o1 yv
   have VA:wl ((a*a:Nat):Int)<10000000000:=mr (Hn (a:=((a*a:Nat):Int)) (b:=(M:Int)) (by omega)) hM
   simp[A.jv,hr,r1,a2,c2,b1,p1,p2,g0,aL,aM]
   refine au (yy ha ha (by omega) (by omega)) ?_
   rintro v h3 n3 k3 hv
   rw[<-GA]at hv
   obtain⟨n6,u6,rfl,o6⟩:=hv.cells
   unfold V.one at o6
   have mm:=k3.le
   have f0:=(k3.get N (by omega)).trans g0
   have f1:=(k3.get q (by omega)).trans g1
   have f2:=(k3.get (N+1) (by omega)).trans aE
   have d3:¬q=N:=by omega
   simp[r1,hr,hf,a2,f0,o6,ag,bS,b2]
   refine⟨m/2,by omega,by simp[aB,hW],(hK.trans k3).set (aR _),pX,by show q<n3;omega,by simp[f2],by simp,by omega,n6,n2,u6,u2,a*a,o,by simp,by simp[d3,f1],hv.aC f0 ha.nu rfl,(ho.ae k3).aC f0 ha.nu rfl,Yjt sA p0,sh a1 a1,o1,VA⟩
def Ym4{x:V}(hx:In h N x a)(ha:1<=a)(hk:k<4611686018427387904)(la:wl a<10000000000)(hM:wl ((a^k:Nat):Int)<10000000000):Fn A.C 187 [x,.int .i64 k] h N (fun v h' n'=>In h' n' v ((a^k:Nat):Int)):=by
 intro w
 rw[aQ,A.k187 (by simp)]
 obtain⟨n1,u1,rfl,o1⟩:=hx.cells
 have kk:=aG (aG (ad.refl (h:=h) (n:=N)) (.cells [.int .i64 n1,u1] 70 true)) (.cells [.int .i64 0,.aa] 70 true)
 have nz:=hx.ae kk
 unfold V.one at o1
 simp[A.b187,o1]
 refine au EO ?_
 rintro _ h1 m1 k1 rfl
 have eS:=k1.le
 have g0:=k1.get N (by omega)
 have g1:=k1.get (N+1) (by omega)
 simp at g0 g1
 have xW:=nz.ae k1
 have d1:¬N=m1:=by omega
 have d2:¬N+1=m1:=by omega
 have kQ:¬m1<N:=by omega
 have kE:=(aG (ad.refl (h:=h1) (n:=m1)) (.cells [.int .i64 0,.aa] 70 true)).set (i:=m1) (o:=.cells [.int .i64 1,.aa] 70 true) (aR _)
 simp[ag,bS]
 refine cX [(1,1),(7,21)] _ (O0 h N m1 (a^k)) k ?_ (Yfi hM (by simp) (by simp)) ?_
 ·refine⟨by simp[aB,kQ],((kk.trans k1).trans kE),by omega,by show m1<m1+1;omega,by simp[d2,g1],by simp,hk,n1,1,u1,.aa,a,1,by simp[d1,g0],by simp,xW.ae kE,In.small (by omega) (by omega),by simp,ha,by omega,la⟩
 rintro e r ⟨h5,m5,W5⟩ hr ⟨rfl,hW,hK,pX,jZ,aE,r1,lm,n5,n6,u5,u6,a',o,g5,g6,ha5,iW,sA,a1,o1',CE⟩
 simp only at hW hK jZ aE g5 g6 ha5 iW
 obtain⟨_,_,e5,o5⟩:=iW.cells
 simp only[V.agg.injEq,iB,V.int.injEq,true_and,and_true]at e5
 obtain⟨rfl,rfl⟩:=e5
 unfold V.one at o5
 have he:(o:Int)=((a^k:Nat):Int):=by rw[<-sA];simp
 rw[he]at iW
 have kQ:¬N+1<N:=by omega
 simp[hr,g6,aE,aL,aM,ag,bS,o5,aA,hW,kQ]
 exact⟨hK.set (by omega),iW.aC aE (by simp) rfl⟩
def Ybb(x:aU):∀(y:aU),aD (x++y)=aD x*10^y.length+aD y:=by
 intro y
 generalize hn:y.length=n
 induction n generalizing y with
 |zero=>
  have:y=[]:=pV hn
  subst this;simp[aD]
 |succ n ih=>
  obtain⟨u,d,rfl⟩:∃u d,y=u++[d]:=⟨y.dropLast,y.getLast (by rintro rfl;simp at hn),(R6 _).symm⟩
  simp at hn
  rw[<-qs,JF,JF,ih u hn,fv]
  grind
def CG{n:Nat}(h:n<10^k):wl n<=k:=by
 unfold wl
 apply VB
 have:(10:Nat)^k<=B^k:=BK (by decide) k
 simp;omega
def Zo6(h:cF s=true)(k:Nat):cF (s.take k)=true:=by
 unfold cF at*
 rw[sJ]at*
 exact fun x hx=>h x (Ae hx)
def Zzo(h:cF s=true)(k:Nat):cF (s.drop k)=true:=by
 unfold cF at*
 rw[sJ]at*
 exact fun x hx=>h x (List.mem_of_mem_drop hx)
structure O3 (h:T O) (N:Nat) (s:aU) (m:Nat) (r:T V) (st:St):Prop where
 w:aB N st.w=[]
 ae:ad h N st.h st.n
 le:N+2<=st.n
 row:st.h.get N=some (.cells [.int .i64 0,.aa] 70 true)
 ex:∃(cur:aU) (p:Nat) (n1:Int) (u1:V),r.get 0=some (.str cur)/\cur.length=m/\m<=s.length/\cF cur=true/\st.h.get (N+1)=some (.cells [.int .i64 n1,u1] 70 true)/\In st.h st.n (.agg [.int .i64 n1,u1]) p/\aD s=p*10^m+aD cur
def Yau{r0:T V}(hd:cF s=true)(hl:s.length<=100000)(a4:r0.get 4=some (.ptr (N+1) 0)):
  ∀x r st,(∀t,jk [(0,0),(5,7),(13,36)] t=false->r.get t=r0.get t)->Fx [(0,0),(5,7),(13,36)] r0 41 ⟨r,41,[]⟩->O3 h N s x r st->Code A.C none A.lY ⟨r,41,[]⟩ st (Rd [(0,0),(5,7),(13,36)] r0 41 (O3 h N s) x (fun e r st=>e=.exit 0/\O3 h N s 0 r st)):=by
 rintro m r ⟨H,n0,W⟩ hr hf ⟨hW,hK,hle,aE,cur,p,n1,u1,jI,dM,hms,nE,g1,hp,hv⟩
 simp only at hW hK hle aE g1 hp
 rw[cm]
 by_cases h0:m=0
 ·subst h0
  have:cur=[]:=pV dM
  subst this
  simp[A.lY,hf,jI]
  exact⟨hW,hK,hle,aE,[],p,n1,u1,by simp[jI],rfl,by omega,rfl,g1,hp,hv⟩
 ·obtain⟨n,hn⟩:∃n,n=min 18 m:=⟨_,rfl⟩
  have c1:0<cur.length:=by omega
  have c3:(if (cur.length:Int)<18 then (cur.length:Int) else 18)=(n:Int):=by split<;>omega
  have c4:(n:Int)<=(cur.length:Int):=by omega
  have hpv:p<=aD s:=by
   rw[hv]
   have:p*1<=p*10^m:=iT p (vf (by decide))
   omega
  have cO:=zO hd
  have lp:wl (p:Int)<=100000:=qz (CG (mr hpv cO)) hl
  have Q8:=fun (h:T O) (N:Nat)=>Yl2 (s:=cur.take n) (h:=h) (N:=N) (Zo6 nE n) (by rw[jH];omega) (by rw[jH];omega)
  have l10:wl ((10:Nat):Int)<10000000000:=by decide+kernel
  have lpw:wl ((10^n:Nat):Int)<=19:=CG (Nat.pow_lt_pow_right (by decide) (by omega))
  have CI:=zO (Zo6 nE n)
  have htl:(cur.take n).length=n:=by rw[jH];omega
  rw[htl]at CI
  have Aj:(10:Nat)^n<=10^18:=nY (by decide) (by omega)
  have Yl:(10:Nat)^18=1000000000000000000:=by decide
  have lnv:wl ((aD (cur.take n):Nat):Int)<=18:=qz (CG CI) (by omega)
  simp[A.lY,jI,c1,wH,As,vA,c3,c4,az]
  refine au (Q8 _ _) ?_
  rintro _ h1 m1 k1 rfl
  have eS:=k1.le
  have f1:=(k1.get (N+1) (by omega)).trans g1
  simp[a4,hr,f1,aL,aM]
  refine au EO ?_
  rintro _ h2 m2 k2 rfl
  have gF:=k2.le
  simp[]
  refine au (Ym4 (In.small (z:=(10:Nat)) (by omega) (by omega)) (by omega) (by omega) l10 (by omega)) ?_
  rintro vp h3 m3 k3 hvp
  have mm:=k3.le
  simp[]
  refine au (yy (((hp.ae k1).ae k2).ae k3) hvp (by omega) (by omega)) ?_
  rintro vm h4 m4 k4 hvm
  have tj:=k4.le
  have lm:=Bm (p:Int) ((10^n:Nat):Int)
  simp[]
  refine au EO ?_
  rintro _ h5 m5 k5 rfl
  have Fu:=k5.le
  simp[]
  refine au (KF (hvm.ae k5) (In.small (z:=((aD (cur.take n):Nat):Int)) (by omega) (by omega)) (by omega) (by omega)) ?_
  rintro va h6 m6 k6 VC
  have zaE:=k6.le
  have k26:=(((k2.trans k3).trans k4).trans k5).trans k6
  have e1:=(k26.get (N+1) (by omega)).trans f1
  have e2:=(k26.get N (by omega)).trans ((k1.get N (by omega)).trans aE)
  obtain⟨n6,u6,rfl,o6⟩:=VC.cells
  unfold V.one at o6
  have z1:N+1<m1:=by omega
  have z2:N+1<m6:=by omega
  have z3:¬N+1<N:=by omega
  have z4:N+1<m5:=by omega
  simp[hr,hf,a4,jI,e1,o6,z1,z2,z4,ag,bS,az,c4,cD.cG]
  have JW:(p:Int)*((10^n:Nat):Int)+((aD (cur.take n):Nat):Int)=((p*10^n+aD (cur.take n):Nat):Int):=by simp
  rw[JW]at VC
  refine⟨m-n,by omega,by simp[aB,hW,z3],((hK.trans k1).trans k26).set (by omega),by show N+2<=m6;omega,by simp[e2],cur.drop n,p*10^n+aD (cur.take n),n6,u6,by simp,by rw[zp];omega,by omega,Zzo nE n,by simp,VC.aC e1 hp.nu rfl,?_⟩
  have h1:=Ybb (cur.take n) (cur.drop n)
  rw[yW,zp,dM]at h1
  rw[hv,h1,jF,tZ,<-gL,show n+(m-n)=m by omega]
  omega
def Yav{s:aU}{h:T O}{N:Nat}(hd:cF (bj s)=true)(hl:(bj s).length<=100000):Fn A.C 126 [.str s] h N (fun v h' n'=>In h' n' v (if bY s=true then -(aD (bj s):Int) else (aD (bj s):Int))):=by
 intro w
 rw[aQ,A.k126 (by simp)]
 simp[A.b126,Zrv,Zjq,ag]
 refine cX [(0,0),(5,7),(13,36)] _ (O3 h N (bj s)) (bj s).length ?_ (Yau hd hl (by simp)) ?_
 ·have kk:=(aG (aG (ad.refl (h:=h) (n:=N)) (.cells [.int .i64 0,.aa] 70 true)) (.cells [.int .i64 0,.aa] 70 true)).set (i:=N+1) (o:=.cells [.int .i64 0,.aa] 70 true) (by omega)
  exact⟨by simp[aB],kk,aR _,by simp,bj s,0,0,.aa,by simp,rfl,aR _,hd,by simp,In.small (by omega) (by omega),by simp⟩
 rintro e r ⟨h5,m5,W5⟩ hr ⟨rfl,hW,hK,hle,aE,cur,p,n1,u1,jI,dM,hms,nE,g1,hp,hv⟩
 simp only at hW hK hle aE g1 hp
 have:cur=[]:=pV dM
 subst this
 have hv:aD (bj s)=p:=by rw[hv];simp[aD]
 have lp:wl (p:Int)<=100000:=by rw[<-hv];exact qz (CG (zO hd)) hl
 obtain⟨_,_,e5,o5⟩:=hp.cells
 simp only[V.agg.injEq,iB,V.int.injEq,true_and,and_true]at e5
 obtain⟨rfl,rfl⟩:=e5
 unfold V.one at o5
 cases hn:bY s with
 |true=>
  simp[hr,hn,g1,aL,aM]
  refine au (FZ hp (by omega)) ?_
  rintro v h6 m6 k6 hv6
  obtain⟨n6,u6,rfl,o6⟩:=hv6.cells
  unfold V.one at o6
  have e0:=(k6.get N (by omega)).trans aE
  simp[hr,e0,o6,aL,aM,ag,bS,aA,hW]
  exact⟨(hK.trans k6).set (aR _),by rw[hv];exact hv6.aC e0 (by simp) rfl⟩
 |false=>
  simp[hr,hn,g1,aE,o5,aL,aM,ag,bS,aA,hW]
  exact⟨hK.set (aR _),by rw[hv];exact hp.aC aE (by simp) rfl⟩
variable {N:Nat} {h:T O}
def A.w24:=A.q Tryz.f24
def A.pP:=A.ql A.w24 0 []
def A.b24:=(fun x0=>A.qb A.w24 [x0]) A.pP
def A.k24:=@A.kk 24 15 [.tmp 2] A.b24 (by kernel_rfl) rfl
def A.Ld:=A.q Tryz.f162
def A.lZ:=A.ql A.Ld 0 []
def A.b162:=(fun x0=>A.qb A.Ld [x0]) A.lZ
def A.k162:=@A.kk 162 15 [.tmp 2] A.b162 (by kernel_rfl) rfl
def WR{v:V}{l:List Int}{w:List Nat}(hs:Sl h N v (dI l))(hl:l.length<1000):A.C.call (.func 24 [] []) [v] ⟨h,N,w⟩=some (.int .i64 (cN l),⟨h,N,w⟩):=by
 apply Call.eq
 have hlen:=hs.len
 rw[f_]at hlen
 rw[aQ,A.k24 (by simp)]
 simp[A.b24,hlen]
 refine cX [(2,2),(4,4),(7,14)] (fun e r st=>st=⟨h,N,[]⟩/\((e=.exit 0/\cN l=0)\/(e=.ret/\r.get 2=some (.int .i64 (cN l))))) (fun m r st=>st=⟨h,N,[]⟩/\∃k,m=l.length-k/\k<=l.length/\r.get 7=some (.int .i64 k)/\cN l=cN (l.drop k)) l.length ?_ ?_ ?_
 ·exact⟨rfl,0,by omega,by omega,by simp,by simp⟩
 ·rintro m r _ hr hf ⟨rfl,k,rfl,hk,h7,hz⟩
  rw[cm]
  by_cases aO:k<l.length
  ·obtain⟨c,hc⟩:=eA aO
   obtain⟨i,o,cc,e,rw,q1,q2,q3,q4⟩:=hs.at (fU hc)
   rw[qm hc,cN]at hz
   have ew:(k:Int)<(l.length:Int):=by omega
   by_cases h0:c=0
   ·rw[aJ h0]at hz
    simp(disch:=first|(simp;done)|omega|(simp only[bn,bW,bf];omega)|rfl) [A.pP,hr,hf,h7,ew,aO,hlen,q1,q3,q4,aW,h0]
    exact⟨_,by omega,k+1,rfl,by omega,by simp,hz⟩
   ·rw[aq h0]at hz
    simp[A.pP,hr,hf,h7,ew,hlen,q1,q3,q4,h0,hz]
  ·have:l.drop k=[]:=w_ (by omega)
   rw[this,cN]at hz
   have:k=l.length:=by omega
   subst this
   simp[A.pP,hr,hf,h7,hz]
 ·rintro _ r _ hr ⟨rfl,⟨rfl,hz⟩|⟨rfl,h2⟩⟩
  ·simp[hz]
  ·simp[h2]
def Ybf{v:V}{l:List Int}{w:List Nat}(hs:Sl h N v (dI l))(hl:l.length<1000):A.C.call (.func 162 [] []) [v] ⟨h,N,w⟩=some (.int .i64 (cN l),⟨h,N,w⟩):=by
 apply Call.eq
 have hlen:=hs.len
 rw[f_]at hlen
 rw[aQ,A.k162 (by simp)]
 simp[A.b162,hlen]
 refine cX [(2,2),(4,4),(7,14)] (fun e r st=>st=⟨h,N,[]⟩/\((e=.exit 0/\cN l=0)\/(e=.ret/\r.get 2=some (.int .i64 (cN l))))) (fun m r st=>st=⟨h,N,[]⟩/\∃k,m=l.length-k/\k<=l.length/\r.get 7=some (.int .i64 k)/\cN l=cN (l.drop k)) l.length ?_ ?_ ?_
 ·exact⟨rfl,0,by omega,by omega,by simp,by simp⟩
 ·rintro m r _ hr hf ⟨rfl,k,rfl,hk,h7,hz⟩
  rw[cm]
  by_cases aO:k<l.length
  ·obtain⟨c,hc⟩:=eA aO
   obtain⟨i,o,cc,e,rw,q1,q2,q3,q4⟩:=hs.at (fU hc)
   rw[qm hc,cN]at hz
   have ew:(k:Int)<(l.length:Int):=by omega
   by_cases h0:c=0
   ·rw[aJ h0]at hz
    simp(disch:=first|(simp;done)|omega|(simp only[bn,bW,bf];omega)|rfl) [A.lZ,hr,hf,h7,ew,aO,hlen,q1,q3,q4,aW,h0]
    exact⟨_,by omega,k+1,rfl,by omega,by simp,hz⟩
   ·rw[aq h0]at hz
    simp[A.lZ,hr,hf,h7,ew,hlen,q1,q3,q4,h0,hz]
  ·have:l.drop k=[]:=w_ (by omega)
   rw[this,cN]at hz
   have:k=l.length:=by omega
   subst this
   simp[A.lZ,hr,hf,h7,hz]
 ·rintro _ r _ hr ⟨rfl,⟨rfl,hz⟩|⟨rfl,h2⟩⟩
  ·simp[hz]
  ·simp[h2]
def Fg{i:Nat}{w:List Nat}{a0 a1:Int}(hi:i<N):A.C.call (.func 162 [] []) [.slice i 0 2 (some 2) 1] ⟨h.set i (.cells [.int .i64 a0,.int .i64 a1] 29 true),N,w⟩=some (.int .i64 (cN [a0,a1]),⟨h.set i (.cells [.int .i64 a0,.int .i64 a1] 29 true),N,w⟩):=
 Ybf (l:=[a0,a1]) (Sl.row (e:=29) (rw:=true) (cp:=some 2) hi (by simp[dI]) rfl (by simp)) (by simp)
def WX{i:Nat}{w:List Nat}{a0 a1:Int}(hi:i<N):A.C.call (.func 24 [] []) [.slice i 0 2 (some 2) 1] ⟨h.set i (.cells [.int .i64 a0,.int .i64 a1] 29 true),N,w⟩=some (.int .i64 (cN [a0,a1]),⟨h.set i (.cells [.int .i64 a0,.int .i64 a1] 29 true),N,w⟩):=
 WR (l:=[a0,a1]) (Sl.row (e:=29) (rw:=true) (cp:=some 2) hi (by simp[dI]) rfl (by simp)) (by simp)
end
end Go.Mx
