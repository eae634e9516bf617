/-strings-/
import Derived.Test.YtlfdeoomaccciaaGreatDoorNbC
set_option linter.all false
namespace Go.Mx
noncomputable section
open Go Go.Proofs
variable {N i:Nat} {h:T O} {rw:Bool} {s:aM}
set_option maxRecDepth 1000000
def A.b230:bO:=sr [ge 4 (.km (.const (.str [])))]
 (.seq (sr [mv 7 0,ge 8 (.bin .eql (.bX .str) true (tq 7) (.const (.str []))),mv 9 8,mh 10 1 9,gz 11 9 (.bin .eql (.bX .str) true (tq 10) (.const (.str []))),pt 12 9 11]
 (cd 12
 (sr [mv 13 0,mv 4 13]
 (.ret))
 (.skip)))
 (.seq (sr [mv 14 1,ge 15 (.len 0 (tq 14)),ei 16 15 1,mv 17 16,mg 18 1 17,gy 19 17 (.bI (tq 18) (kq 0)),gy 20 17 (.bin .lss (.node []) false (tq 19) (.const (.int .u8 128))),pf 21 17 20]
 (cd 21
 (.seq (.dj [mv 22 0,mv 23 1,ge 24 (.bI (tq 23) (kq 0)),c2 25 261 22 24,mv 26 1,ge 27 (.bI (tq 26) (kq 0)),c2 28 260 25 27,mv 4 28] [0,0,2,7,0,16,63,127])
 (.ret))
 (.skip)))
 (.seq (sr [mv 30 1,c1 31 262 30,mv 29 31,xt 32 29 0,xt 33 29 1,ge 5 (.alloc (oD 0) 249),gn (.store 256 (tq 5) (tq 32)),mv 6 33]
 (sr [mv 34 6]
 (cd 34
 (sr [mv 35 0,c2 36 264 35 5,c2 37 263 36 5,mv 4 37]
 (.ret))
 (.skip))))
 (sr [mv 38 0,mv 39 1,c2 40 266 38 39,mv 41 1,c2 42 265 40 41,mv 4 42]
 (.ret)))))
def A.k230:=@A.kk 230 43 [.tmp 4] A.b230 (by kernel_rfl) rfl
def A.rS:bO:=.seq (sr [mv 6 4,mv 7 0,ge 8 (.len 0 (tq 7)),bi 9 .lss 6 8]
 (cd 9
 (.skip)
 (.exit 0)))
 (.seq (.block 1 (sr [mv 12 0,mv 13 4,ge 14 (.bI (tq 12) (tq 13)),mv 5 14]
 (.seq (sr [mv 15 5,ge 16 (.bin .geq (.node []) false (tq 15) (.const (.int .u8 128)))]
 (cd 16
 (sr [lN 17 256 2,gn (.store 256 (tq 2) (tq 17)),ge 3 (.km (.const (.bool false)))]
 (.ret))
 (.skip)))
 (.dP [mv 18 5,ge 19 (.gY 256 1 (tq 2) (tq 18)),gn (.store 1 (tq 19) (.const (.bool true)))]))))
 (.dP [mv 10 4,bc 11 .add 10 1,mv 4 11]))
def A.b262:bO:=sr [ge 2 (.alloc (oD 0) 249),ge 3 (.km (.const (.bool false)))]
 (.seq (sr [mc 4 0]
 (.block 0 (.loop A.rS)))
 (sr [lN 20 256 2,gn (.store 256 (tq 2) (tq 20)),ge 3 (.km (.const (.bool true)))]
 (.ret)))
def A.k262:=@A.kk 262 21 [.cell 2 (some 256),.tmp 3] A.b262 (by kernel_rfl) rfl
def A.NG:=A.q Tryz.f263
def A.nA:=A.ql A.NG 0 []
def A.b263:=(fun x0=>A.qb A.NG [x0]) A.nA
def A.k263:=@A.kk 263 16 [.tmp 4] A.b263 (by kernel_rfl) rfl
def A.NH:=A.q Tryz.f264
def A.nC:=A.ql A.NH 0 []
def A.b264:=(fun x0=>A.qb A.NH [x0]) A.nC
def A.k264:=@A.kk 264 22 [.tmp 4] A.b264 (by kernel_rfl) rfl
def A.b284:=A.q Tryz.f284
def A.k284:=@A.kk 284 10 [.tmp 4] A.b284 (by kernel_rfl) rfl
def A.b176:=A.q Tryz.f176
def A.k176:=@A.kk 176 19 [.tmp 2] A.b176 (by kernel_rfl) rfl
def Zzw:Fn A.C 262 [(.str [48,49,50,51,52,53,54,55,56,57])] h N (fun v _ _=>v=.aV [.agg (oD 10),.bool true]):=by
 intro w
 rw[aN,A.k262 (by simp)]
 simp[A.b262]
 refine bG [(3,19)] (fun e r st=>e=.exit 0/\st.n=N+1/\av N st.w=[]/\ab h N st.h (N+1)/\st.h.get N=some (.cells (oD 10) 249 true)) (fun m r st=>st.n=N+1/\av N st.w=[]/\ab h N st.h (N+1)/\∃k,m=10-k/\k<=10/\r.get 4=some (.int .i64 k)/\st.h.get N=some (.cells (oD k) 249 true)) 10 ?_ ?_ ?_
 ·exact⟨rfl,rfl,(ab.refl.set (aQ _)).up (by omega),0,by omega,by omega,by simp,by simp⟩
 ·rintro m r ⟨H,n1,W⟩ hr hf ⟨hn,hW,hK,k,rfl,hk,h4,al⟩
  simp only at hn hW hK al
  subst hn
  rw[bk]
  by_cases ax:k<10
  ·obtain⟨c,hc,hcu⟩:=Yjc ax
   unfold Wl at hc
   have a1:¬128<=cI c:=by omega
   have a2:cI c<256:=by omega
   have a3:0<=cI c:=by omega
   have a4:(cI c).toNat=48+k:=by omega
   have a_:(k:Int)<10:=by omega
   have hs:=Yj4 ax
   have q1:=Af k
   simp(disch:=first|(simp;done)|omega|(simp only[bC,cB,bp];omega)|rfl) [-getElem?_pos,A.rS,hr,hf,h4,a_,hc,a1,a2,a3,a4,hs,al,hW]
   exact⟨_,by omega,hK.set (aQ N),k+1,rfl,by omega,by simp,rfl⟩
  ·have:k=10:=by omega
   subst this
   simp[A.rS,hr,hf,h4,al,hW]
   exact hK
 ·rintro e r ⟨H,n1,W⟩ hr ⟨rfl,hn,hW,hK,al⟩
  simp only at hn hW hK al
  subst hn
  have q1:=Af 10
  simp[hr,aA,hW,al,aO,aD,Af,Zyg]
  exact hK.set (aQ N)
def Zom{c:UInt8}{w:List Nat}{e:TypeId}(hr:h.get i=some (.cells (oD 10) e rw)):A.C.call (.func 284 [] []) [.ptr i 0,.int .u8 (cI c)] ⟨h,N,w⟩=some (.bool (ko c),⟨h,N,w⟩):=by
 apply Call.eq
 rw[aN,A.k284 (by simp)]
 have hu:=Ybn c
 have e2:(oD 10)[(cI c).toNat]?=some (.bool (ko c)):=by
  rw[Jw (by omega),Wk]
  congr 2
  rw[decide_eq_decide];omega
 simp(disch:=omega) [A.b284,hr,hu,e2]
def Yje{k:Nat}{c:UInt8}(hl:s.length=k+1)(hc:s[k]?=some c):cE s=(cE (s.take k)&&ko c):=by
 unfold cE
 have:s=s.take k++[c]:=by
  conv=>lhs;rw[<-Cl k s]
  rw[lH hc,zV (by omega)]
 conv=>lhs;rw[this]
 simp
def Yew{s:aM}{c:UInt8}(hc:s[0]?=some c):cE s=(ko c&&cE (s.drop 1)):=by
 cases s with
 |nil=>simp at hc
 |cons d s=>simp at hc;subst hc;rfl
def Yjd{k:Nat}{c:UInt8}(hc:s[k]?=some c)(hd:ko c=false):cE s=false:=by
 unfold cE
 rw[List.all_eq_false]
 exact⟨c,bU hc,by simp[hd]⟩
def NI(s:aM)(v:V):Prop:=∃t:aM,v=.str t/\t.length<=s.length/\cE t=cE s/\(cE s=true->t=[])
def Zsb{e:TypeId}(ef:h.get i=some (.cells (oD 10) e rw))(hl:s.length<4611686018427387904):Fn A.C 264 [.str s,.ptr i 0] h N (fun v _ _=>NI s v):=by
 intro w
 rw[aN,A.k264 (by simp)]
 simp[A.b264]
 refine bG [(0,0),(5,20)] (fun e r st=>e=.exit 0/\st=⟨h,N,[]⟩/\∃t:aM,r.get 0=some (.str t)/\t.length<=s.length/\cE t=cE s/\(cE s=true->t=[])) (fun m r st=>st=⟨h,N,[]⟩/\∃t:aM,m=t.length/\t.length<=s.length/\r.get 0=some (.str t)/\cE t=cE s) s.length ?_ ?_ ?_
 ·exact⟨rfl,s,rfl,by omega,by simp,rfl⟩
 ·rintro m r _ hr hf ⟨rfl,t,rfl,hle,h0,ht⟩
  rw[bk]
  by_cases hz:t.length=0
  ·have:t=[]:=q8 hz
   subst this
   simp[A.nC,hr,hf,h0,ht]
  ·obtain⟨k,hk⟩:∃k,t.length=k+1:=⟨t.length-1,by omega⟩
   obtain⟨c,hc⟩:=bh (l:=t) (k:=k) (by omega)
   have gH:(t.length:Int)=k+1:=by omega
   have qH:(0:Int)<(k:Int)+1:=by omega
   have bL:(k:Int)+1-1=k:=by omega
   have AP:=fun w=>Zom (c:=c) (N:=N) (w:=w) ef
   by_cases hd:ko c=true
   ·simp(disch:=first|(simp;done)|omega|(simp only[bC,cB,bp];omega)|rfl) [-getElem?_pos,A.nC,hr,hf,h0,gH,qH,bL,hc,AP,hd,aC]
    exact⟨k,by omega,t.take k,by simp;omega,by simp;omega,rfl,by rw[<-ht,Yje hk hc,hd];simp⟩
   ·have hd:ko c=false:=by simpa using hd
    simp(disch:=first|(simp;done)|omega|(simp only[bC,cB,bp];omega)|rfl) [-getElem?_pos,A.nC,hr,hf,h0,gH,qH,bL,hc,AP,hd,aC]
    have hq:=Yjd hc hd
    rw[ht]at hq
    simp[hq,hle]
    rw[ht];exact hq
 ·rintro _ r _ hr ⟨rfl,rfl,t,h0,hle,ht,he⟩
  simp[hr,h0,aA,NI]
  exact⟨ab.refl,hle,ht,he⟩
def Zuh{e:TypeId}(ef:h.get i=some (.cells (oD 10) e rw))(hl:s.length<4611686018427387904):Fn A.C 263 [.str s,.ptr i 0] h N (fun v _ _=>NI s v):=by
 intro w
 rw[aN,A.k263 (by simp)]
 simp[A.b263]
 refine bG [(0,0),(5,14)] (fun e r st=>e=.exit 0/\st=⟨h,N,[]⟩/\∃t:aM,r.get 0=some (.str t)/\t.length<=s.length/\cE t=cE s/\(cE s=true->t=[])) (fun m r st=>st=⟨h,N,[]⟩/\∃t:aM,m=t.length/\t.length<=s.length/\r.get 0=some (.str t)/\cE t=cE s) s.length ?_ ?_ ?_
 ·exact⟨rfl,s,rfl,by omega,by simp,rfl⟩
 ·rintro m r _ hr hf ⟨rfl,t,rfl,hle,h0,ht⟩
  rw[bk]
  by_cases hz:t.length=0
  ·have:t=[]:=q8 hz
   subst this
   simp[A.nA,hr,hf,h0,ht]
  ·cases t with
   |nil=>simp at hz
   |cons c t=>
    have qH:(0:Int)<(t.length:Int)+1:=by omega
    have AP:=fun w=>Zom (c:=c) (N:=N) (w:=w) ef
    have Kc:=Yew (s:=c::t) (c:=c) rfl
    by_cases hd:ko c=true
    ·simp(disch:=first|(simp;done)|omega|(simp only[bC,cB,bp];omega)|rfl) [A.nA,hr,hf,h0,qH,AP,hd,aC]
     simp only[bp]at hle
     rw[hd]at Kc
     exact⟨t.length,by omega,t,rfl,by omega,rfl,by rw[<-ht,Kc];rfl⟩
    ·have hd:ko c=false:=by simpa using hd
     simp[A.nA,hr,hf,h0,qH,AP,hd,aC]
     rw[hd]at Kc
     rw[ht]at Kc
     simp only[bp]at hle
     simp[Kc,hle]
     rw[ht,Kc];rfl
 ·rintro _ r _ hr ⟨rfl,rfl,t,h0,hle,ht,he⟩
  simp[hr,h0,aA,NI]
  exact⟨ab.refl,hle,ht,he⟩
def Zyp(hl:s.length<4611686018427387904):Fn A.C 230 [.str s,(.str [48,49,50,51,52,53,54,55,56,57])] h N (fun v _ _=>NI s v):=by
 intro w
 rw[aN,A.k230 (by simp)]
 by_cases he:s=[]
 ·subst he
  simp[A.b230,aE,aA]
  exact⟨ab.refl,[],rfl,aQ _,rfl,fun _=>rfl⟩
 ·have e1:(s==[])=false:=by simp[he]
  have e2:s.isEmpty=false:=by simp[he]
  simp[A.b230,aE,e1,e2]
  refine aB Zzw ?_
  rintro v h1 n1 k1 rfl
  have q1:=Af 10
  simp[]
  refine aB (Zsb (e:=249) (rw:=true) ?_ hl) ?_
  ·simp
  rintro v h2 n2 k2 ⟨t,rfl,hle,ht,hte⟩
  have pz:h2.get n1=some (.cells (oD 10) 249 true):=by
   rw[k2.get _ (by omega)]
   simp
  simp[]
  refine aB (Zuh (e:=249) (rw:=true) pz (by omega)) ?_
  rintro v h3 n3 k3 ⟨u,rfl,zaF,hu,hue⟩
  have kk:ab h N h3 n3:=(((k1.set k1.le).set k1.le).up (vw n1)).trans (k2.trans k3)
  simp[aA]
  exact⟨k1.le,kk,u,rfl,by omega,by rw[hu,ht],fun h=>hue (by rw[ht];exact h)⟩
def YP{s:aM}{h:T O}{N:Nat}(hl:s.length<4611686018427387904):Fn A.C 176 [.str s] h N (fun v _ _=>v=.bool (jc s)):=by
 intro w
 rw[aN,A.k176 (by simp)]
 cases s with
 |nil=>simp[A.b176,aA,jc];exact ab.refl
 |cons c s=>
  simp[A.b176]
  refine aB (Zyp hl) ?_
  rintro v h1 n1 k1 ⟨t,rfl,hle,ht,hte⟩
  have hd:jc (c::s)=(cE (c::s)&&(decide (cI c≠48)||decide (s=[]))):=by
   have:decide (c.toNat≠48)=decide (cI c≠48):=by unfold cI;rw[decide_eq_decide];omega
   simp only[jc,this];rfl
  by_cases ha:cE (c::s)=true
  ·have:=hte ha
   subst this
   by_cases h0:cI c=48
   ·have hc:c=48:=by unfold cI at h0;exact UInt8.toNat_inj.1 (by show c.toNat=48;omega)
    subst hc
    simp[aE,hd,ha,h0,aA,k1]
    cases s<;>rfl
   ·simp[aE,hd,ha,h0,aA,k1]
  ·have ha:cE (c::s)=false:=by simpa using ha
   rw[ha]at ht
   have e1:(t==[])=false:=by
    cases t with
    |nil=>cases ht
    |cons=>rfl
   have e2:t.isEmpty=false:=by
    cases t with
    |nil=>cases ht
    |cons=>rfl
   simp[aE,hd,ha,e1,e2,aA,k1]
def A.NJ:=A.q Tryz.f240
def A.rT:=A.ql A.NJ 0 []
def A.b240:=(fun x0=>A.qb A.NJ [x0]) A.rT
def A.k240:=@A.kk 240 77 [.tmp 2,.tmp 3] A.b240 (by kernel_rfl) rfl
def A.b194:=A.q Tryz.f194
def A.k194:=@A.kk 194 18 [.tmp 2,.tmp 3] A.b194 (by kernel_rfl) rfl
def Yix{s:aM}{h:T O}{N:Nat}(hd:cE s=true)(h1:1<=s.length)(h2:s.length<=18):Fn A.C 240 [.str s] h N (fun v _ _=>v=.aV [.int .i64 (aG s:Nat),.aY]):=by
 intro w
 obtain⟨c,hc⟩:=bh (l:=s) (k:=0) (by omega)
 have pA:=Lb hd hc
 have a1:¬cI c=45:=by omega
 have a2:¬cI c=43:=by omega
 have a3:(0:Int)<(s.length:Int):=by omega
 have a5:(s.length:Int)<19:=by omega
 have fx:0<s.length:=by omega
 have aW:s≠[]:=fun h=>by rw[h]at h1;simp at h1
 have fQ:s.head?=some c:=by cases s with
  |nil=>simp at hc
  |cons=>simpa using hc
 rw[aN,A.k240 (by simp)]
 by_cases a4:(s.length:Int)<10
 all_goals
  simp(disch:=first|(simp;done)|omega|(simp only[bC,cB,bp];omega)|rfl) [-getElem?_pos,A.b240,a3,a4,a5,aW,fx,fQ,hc,aE,a1,a2]
  refine bG [(2,3),(6,6),(8,8),(49,63)] (fun e r st=>st.n=N+1/\av N st.w=[]/\ab h N st.h (N+1)/\e=.exit 0/\r.get 6=some (.int .i64 (aG s:Nat))) (fun m r st=>st.n=N+1/\av N st.w=[]/\ab h N st.h (N+1)/\st.h.get N=some (.cells (Hu s) 5 true)/\∃k,m=s.length-k/\k<=s.length/\r.get 49=some (.int .i64 k)/\r.get 6=some (.int .i64 (aG (s.take k):Nat))) s.length ?_ ?_ ?_
  ·exact⟨rfl,rfl,(ab.refl.set (aQ _)).up (by omega),by simp,0,by omega,by omega,by simp,by simp[aG]⟩
  ·rintro m r ⟨H,n1,W⟩ hr hf ⟨hn,hW,hK,al,k,rfl,hk,zo,h6⟩
   simp only at hn hW hK al
   subst hn
   rw[bk]
   by_cases ax:k<s.length
   ·obtain⟨c,hc⟩:=bh ax
    have tG:=Lb hd hc
    have hb:=Ya2 hc
    have hv:=Wm hc
    have ZC:=Qj hd k hk
    have rz:=Qk (a:=k) (b:=17) (by omega)
    have b1:¬9<cI c-48:=by omega
    have b2:bl .u8 (cI c-48)=cI c-48:=BA (by omega) (by omega)
    have b3:((aG (s.take (k+1)):Nat):Int)=(aG (s.take k):Nat)*10+(cI c-48):=by
     rw[hv];unfold cI at*;omega
    have b4:((aG (s.take k):Nat):Int)<100000000000000000:=by
     have:(10:Nat)^17=100000000000000000:=by decide
     omega
    generalize hy:aG (s.take (k+1))=y at*
    generalize aG (s.take k)=x at*
    simp(disch:=first|(simp;done)|omega|(simp only[bC,cB,bp];omega)|rfl) [A.rT,hr,hf,zo,h6,ax,al,hb,b1,b2,hW]
    exact⟨_,by omega,hK,k+1,rfl,by omega,by simp,by rw[hy,b3]⟩
   ·have:k=s.length:=by omega
    subst this
    simp[A.rT,hr,hf,zo,hW]
    rw[xg]at h6
    exact⟨hK,h6⟩
  ·rintro _ r ⟨H,n1,W⟩ hr ⟨hn,hW,hK,rfl,h6⟩
   simp only at hn hW hK
   subst hn
   simp[hr,aA,hW,hK,h6,fQ,hc,aE,a1]
def Ypw{s:aM}{h:T O}{N:Nat}(hd:cE s=true)(h1:1<=s.length)(h2:s.length<=18):Fn A.C 194 [.str s] h N (fun v _ _=>v=.aV [.int .i64 (aG s:Nat),.aY]):=by
 intro w
 rw[aN,A.k194 (by simp)]
 simp[A.b194]
 refine aB (Yix hd h1 h2) ?_
 rintro v h1 n1 k1 rfl
 simp[aE,aA,k1]
variable {M N a k o:Nat} {h:T O} {s:aM}
set_option maxHeartbeats 2000000
def A.NK:=A.q Tryz.f195
def A.jX:=A.ql A.NK 0 []
def A.b195:=(fun x0=>A.qb A.NK [x0]) A.jX
def A.k195:=@A.kk 195 23 [.cell 4 (some 2)] A.b195 (by kernel_rfl) rfl
def A.NL:=A.q Tryz.f124
def A.nD:=A.ql A.NL 0 []
def A.b124:=(fun x0=>A.qb A.NL [x0]) A.nD
def A.k124:=@A.kk 124 41 [.cell 2 (some 2)] A.b124 (by kernel_rfl) rfl
def Yhe(h:o*a^k=M)(ha:1<=a)(ho:1<=o)(hk:1<=k):o*a<=M/\a<=M/\o<=M:=by
 have h1:a^1<=a^k:=qz ha hk
 rw[Nat.pow_one]at h1
 have h2:o*a<=o*a^k:=kY o h1
 have h3:1*a<=o*a:=mr a ho
 have h4:o*1<=o*a:=kY o ha
 omega
def Yq2(h:o*a^k=M)(ha:1<=a)(ho:1<=o)(hk:1<k):a*a<=M:=by
 have h1:a^2<=a^k:=qz ha hk
 have h2:1*a^k<=o*a^k:=mr _ ho
 have h3:a^2=a*a:=by rw[Nat.pow_two]
 omega
def Yq3(h:o*a^k=M)(hk:k%2=1):(o*a)*(a*a)^(k/2)=M:=by
 rw[<-h,<-Nat.pow_two,<-Nat.pow_mul,D7]
 congr 1
 conv=>rhs;rw[show k=2*(k/2)+1 by omega,fZ]
 rw[jk]
def Ym2(h:o*a^k=M)(hk:k%2=0):o*(a*a)^(k/2)=M:=by
 rw[<-h,<-Nat.pow_two,<-Nat.pow_mul,show 2*(k/2)=k by omega]
structure RQ (h:T O) (N q M m:Nat) (r:T V) (st:St):Prop where
 w:av N st.w=[]
 ae:ab h N st.h st.n
 q1:N+2<=q
 q2:q<st.n
 row:st.h.get (N+1)=some (.cells [.int .i64 0,.aa] 78 true)
 r1:r.get 1=some (.int .i64 m)
 lm:m<4611686018427387904
 ex:∃(n1 n2:Int) (u1 u2:V) (a o:Nat),st.h.get N=some (.cells [.int .i64 n1,u1] 78 true)/\st.h.get q=some (.cells [.int .i64 n2,u2] 78 true)/\In st.h st.n (.agg [.int .i64 n1,u1]) a/\In st.h st.n (.agg [.int .i64 n2,u2]) o/\o*a^m=M/\1<=a/\1<=o/\wl a<10000000000
def Yhk{q:Nat}{r0:T V}(hM:wl M<10000000000)(a2:r0.get 2=some (.ptr N 0))(a5:r0.get 5=some (.ptr q 0)):
  ∀x r st,(∀t,jS [(1,1),(7,21)] t=false->r.get t=r0.get t)->Fx [(1,1),(7,21)] r0 23 ⟨r,23,[]⟩->RQ h N q M x r st->Code A.C none A.jX ⟨r,23,[]⟩ st (Rd [(1,1),(7,21)] r0 23 (RQ h N q M) x (fun e r st=>e=.exit 0/\RQ h N q M 0 r st)):=by
 rintro m r ⟨H,n0,W⟩ hr hf ⟨hW,hK,pY,kp,al,r1,lm,n1,n2,u1,u2,a,o,g0,g1,ha,ho,rO,a1,o1,la⟩
 simp only at hW hK kp al g0 g1 ha ho
 rw[bk]
 have b1:=Yj5 (k:=m) (by omega)
 have b2:=Ygv (k:=m)
 by_cases h0:m=0
 ·subst h0
  simp[A.jX,hr,hf,r1]
  exact⟨hW,hK,pY,kp,al,by simp[r1],by omega,n1,n2,u1,u2,a,o,g0,g1,ha,ho,rO,a1,o1,la⟩
 ·have c1:(0:Int)<(m:Int):=by omega
  have c2:0<m:=by omega
  obtain⟨t1,t2,t3⟩:=Yhe rO a1 o1 c2
  have lo:wl o<10000000000:=qx (HL (a:=(o:Int)) (b:=(M:Int)) (by omega)) hM
  have loa:wl ((o*a:Nat):Int)<10000000000:=qx (HL (a:=((o*a:Nat):Int)) (b:=(M:Int)) (by omega)) hM
  obtain⟨_,_,e5,o5⟩:=ha.cells
  simp only[V.agg.injEq,iY,V.int.injEq,true_and,and_true]at e5
  obtain⟨rfl,rfl⟩:=e5
  unfold V.one at o5
  have fH:¬q<N:=by omega
  by_cases hp:m%2=1
  ·have p1:(m:Int)%2=1:=by omega
   simp[A.jX,hr,hf,r1,a2,a5,c1,c2,b1,b2,hp,p1,aE,g0,g1,aO,aD]
   refine aB (Dm ho ha (by omega) (by omega)) ?_
   rintro v h3 n3 k3 hv
   rw[<-Jf]at hv
   obtain⟨n6,u6,rfl,o6⟩:=hv.cells
   unfold V.one at o6
   have iN:=k3.le
   have f0:=(k3.get N (by omega)).trans g0
   have f1:=(k3.get q (by omega)).trans g1
   have f2:=(k3.get (N+1) (by omega)).trans al
   have d1:¬N=q:=by omega
   have d2:¬N+1=q:=by omega
   have d3:¬q=N:=by omega
   have ZD:=(ha.ae k3).aI (c1:=[.int .i64 n6,u6]) (e1:=78) (w1:=true) f1 ho.nu rfl
   have Rw:=hv.aI (c1:=[.int .i64 n6,u6]) (e1:=78) (w1:=true) f1 ho.nu rfl
   have ZE:(h3.set q (.cells [.int .i64 n6,u6] 78 true)).get N=some (.cells [.int .i64 n1,u1] 78 true):=by rw[T.ag,ak d1];exact f0
   have zD:(h3.set q (.cells [.int .i64 n6,u6] 78 true)).get q=some (.cells [.int .i64 n6,u6] 78 true):=by simp
   have RS:(h3.set q (.cells [.int .i64 n6,u6] 78 true)).get (N+1)=some (.cells [.int .i64 0,.aa] 78 true):=by rw[T.ag,ak d2];exact f2
   have kH:=(hK.trans k3).set (i:=q) (o:=.cells [.int .i64 n6,u6] 78 true) (by omega)
   by_cases xI:1<m
   ·have p2:(1:Int)<(m:Int):=by omega
    have t4:=Yq2 rO a1 o1 xI
    have ZF:wl ((a*a:Nat):Int)<10000000000:=qx (HL (a:=((a*a:Nat):Int)) (b:=(M:Int)) (by omega)) hM
    generalize hH:h3.set q (.cells [.int .i64 n6,u6] 78 true)=H3 at*
    simp[r1,hr,a2,a5,f0,f1,d1,d3,o6,ad,bD,xI,p2,hH,ZE,zD,aO,aD]
    refine aB (Dm ZD ZD (by omega) (by omega)) ?_
    rintro v h4 n4 k4 Nr
    rw[<-Jf]at Nr
    obtain⟨n7,u7,rfl,o7⟩:=Nr.cells
    unfold V.one at o7
    have tY:=k4.le
    have e0:=(k4.get N (by omega)).trans ZE
    have e1:=(k4.get q (by omega)).trans zD
    have e2:=(k4.get (N+1) (by omega)).trans RS
    simp[r1,hr,hf,a2,e0,o7,ad,bD,b2]
    refine⟨m/2,by omega,by simp[av,hW,fH],(kH.trans k4).set (aQ _),pY,by show q<n4;omega,by simp[e2],by simp,by omega,n7,n6,u7,u6,a*a,o*a,by simp,by simp[d3,e1],Nr.aI e0 ha.nu rfl,(Rw.ae k4).aI e0 ha.nu rfl,Yq3 rO hp,yF a1 a1,yF o1 a1,ZF⟩
   ·have p2:¬(1:Int)<(m:Int):=by omega
    have m0:m/2=0:=by omega
    have m1':m=1:=by omega
    simp[r1,hr,hf,a2,a5,f0,f1,d1,d3,o6,ad,bD,xI,p2,b2]
    refine⟨m/2,by omega,by simp[av,hW,fH],kH,pY,by show q<n3;omega,RS,by simp,by omega,n1,n6,u1,u6,a,o*a,ZE,zD,ZD,Rw,by rw[m0,<-rO,m1'];simp,a1,yF o1 a1,la⟩
  ·have p1:¬(m:Int)%2=1:=by omega
   have p0:m%2=0:=by omega
   have p2:(1:Int)<(m:Int):=by omega
   have xI:1<m:=by omega
   have t4:=Yq2 rO a1 o1 xI
   have ZF:wl ((a*a:Nat):Int)<10000000000:=qx (HL (a:=((a*a:Nat):Int)) (b:=(M:Int)) (by omega)) hM
   simp[A.jX,hr,hf,r1,a2,a5,c1,c2,b1,b2,hp,p1,p2,xI,aE,g0,g1,aO,aD]
   refine aB (Dm ha ha (by omega) (by omega)) ?_
   rintro v h3 n3 k3 hv
   rw[<-Jf]at hv
   obtain⟨n6,u6,rfl,o6⟩:=hv.cells
   unfold V.one at o6
   have iN:=k3.le
   have f0:=(k3.get N (by omega)).trans g0
   have f1:=(k3.get q (by omega)).trans g1
   have f2:=(k3.get (N+1) (by omega)).trans al
   have d3:¬q=N:=by omega
   simp[r1,hr,hf,a2,f0,o6,ad,bD,b2]
   refine⟨m/2,by omega,by simp[av,hW],(hK.trans k3).set (aQ _),pY,by show q<n3;omega,by simp[f2],by simp,by omega,n6,n2,u6,u2,a*a,o,by simp,by simp[d3,f1],hv.aI f0 ha.nu rfl,(ho.ae k3).aI f0 ha.nu rfl,Ym2 rO p0,yF a1 a1,o1,ZF⟩
def Yq5{x:V}(hx:In h N x a)(ha:1<=a)(hk:k<4611686018427387904)(la:wl a<10000000000)(hM:wl ((a^k:Nat):Int)<10000000000):Fn A.C 195 [x,.int .i64 k] h N (fun v h' n'=>In h' n' v ((a^k:Nat):Int)):=by
 intro w
 rw[aN,A.k195 (by simp)]
 obtain⟨n1,u1,rfl,o1⟩:=hx.cells
 have kk:=aL (aL (ab.refl (h:=h) (n:=N)) (.cells [.int .i64 n1,u1] 78 true)) (.cells [.int .i64 0,.aa] 78 true)
 have jx:=hx.ae kk
 unfold V.one at o1
 simp[A.b195,aO,aD,ad,o1]
 refine aB HD ?_
 rintro _ h1 m1 k1 rfl
 have fk:=k1.le
 have g0:=k1.get N (by omega)
 have g1:=k1.get (N+1) (by omega)
 simp at g0 g1
 have xY:=jx.ae k1
 have d1:¬N=m1:=by omega
 have d2:¬N+1=m1:=by omega
 have fH:¬m1<N:=by omega
 have kE:=(aL (ab.refl (h:=h1) (n:=m1)) (.cells [.int .i64 0,.aa] 78 true)).set (i:=m1) (o:=.cells [.int .i64 1,.aa] 78 true) (aQ _)
 simp[aO,aD,ad,bD]
 refine bG [(1,1),(7,21)] _ (RQ h N m1 (a^k)) k ?_ (Yhk hM (by simp) (by simp)) ?_
 ·refine⟨by simp[av,fH],((kk.trans k1).trans kE),by omega,by show m1<m1+1;omega,by simp[d2,g1],by simp,hk,n1,1,u1,.aa,a,1,by simp[d1,g0],by simp,xY.ae kE,In.small (by omega) (by omega),by simp,ha,by omega,la⟩
 rintro e r ⟨h5,m5,W5⟩ hr ⟨rfl,hW,hK,pY,kp,al,r1,lm,n5,n6,u5,u6,a',o,g5,g6,ha5,jA,rO,a1,o1',Ff⟩
 simp only at hW hK kp al g5 g6 ha5 jA
 obtain⟨_,_,e5,o5⟩:=jA.cells
 simp only[V.agg.injEq,iY,V.int.injEq,true_and,and_true]at e5
 obtain⟨rfl,rfl⟩:=e5
 unfold V.one at o5
 have he:(o:Int)=((a^k:Nat):Int):=by rw[<-rO];simp
 rw[he]at jA
 have fH:¬N+1<N:=by omega
 simp[hr,g6,al,aO,aD,ad,bD,o5,aA,hW,fH]
 exact⟨hK.set (by omega),jA.aI al (by simp) rfl⟩
def Yc1(x:aM):∀(y:aM),aG (x++y)=aG x*10^y.length+aG y:=by
 intro y
 generalize hn:y.length=n
 induction n generalizing y with
 |zero=>
  have:y=[]:=q8 hn
  subst this;simp[aG]
 |succ n ih=>
  obtain⟨u,d,rfl⟩:∃u d,y=u++[d]:=⟨y.dropLast,y.getLast (by rintro rfl;simp at hn),(VY _).symm⟩
  simp at hn
  rw[<-tv,La,La,ih u hn,fZ]
  grind
def Fh{n:Nat}(h:n<10^k):wl n<=k:=by
 unfold wl
 apply ZG
 have:(10:Nat)^k<=B^k:=Gl (by decide) k
 simp;omega
def Zqf(h:cE s=true)(k:Nat):cE (s.take k)=true:=by
 unfold cE at*
 rw[l7]at*
 exact fun x hx=>h x (yL hx)
def Ya5(h:cE s=true)(k:Nat):cE (s.drop k)=true:=by
 unfold cE at*
 rw[l7]at*
 exact fun x hx=>h x (IL hx)
structure RT (h:T O) (N:Nat) (s:aM) (m:Nat) (r:T V) (st:St):Prop where
 w:av N st.w=[]
 ae:ab h N st.h st.n
 le:N+2<=st.n
 row:st.h.get N=some (.cells [.int .i64 0,.aa] 78 true)
 ex:∃(cur:aM) (p:Nat) (n1:Int) (u1:V),r.get 0=some (.str cur)/\cur.length=m/\m<=s.length/\cE cur=true/\st.h.get (N+1)=some (.cells [.int .i64 n1,u1] 78 true)/\In st.h st.n (.agg [.int .i64 n1,u1]) p/\aG s=p*10^m+aG cur
def Ycl{r0:T V}(hd:cE s=true)(hl:s.length<=100000)(a4:r0.get 4=some (.ptr (N+1) 0)):
  ∀x r st,(∀t,jS [(0,0),(5,7),(13,36)] t=false->r.get t=r0.get t)->Fx [(0,0),(5,7),(13,36)] r0 41 ⟨r,41,[]⟩->RT h N s x r st->Code A.C none A.nD ⟨r,41,[]⟩ st (Rd [(0,0),(5,7),(13,36)] r0 41 (RT h N s) x (fun e r st=>e=.exit 0/\RT h N s 0 r st)):=by
 rintro m r ⟨H,n0,W⟩ hr hf ⟨hW,hK,hle,al,cur,p,n1,u1,ef,cO,hms,pA,g1,hp,hv⟩
 simp only at hW hK hle al g1 hp
 rw[bk]
 by_cases h0:m=0
 ·subst h0
  have:cur=[]:=q8 cO
  subst this
  simp[A.nD,hr,hf,ef]
  exact⟨hW,hK,hle,al,[],p,n1,u1,by simp[ef],rfl,by omega,rfl,g1,hp,hv⟩
 ·obtain⟨n,hn⟩:∃n,n=min 18 m:=⟨_,rfl⟩
  have c1:0<cur.length:=by omega
  have c2:(0:Int)<(cur.length:Int):=by omega
  have c3:(if (cur.length:Int)<18 then (cur.length:Int) else 18)=(n:Int):=by split<;>omega
  have c4:(n:Int)<=(cur.length:Int):=by omega
  have u9:p<=aG s:=by
   rw[hv]
   have:p*1<=p*10^m:=kY p (zX (by decide))
   omega
  have cy:=BB hd
  have lp:wl (p:Int)<=100000:=tk (Fh (qx u9 cy)) hl
  have B0:=fun (h:T O) (N:Nat)=>Ypw (s:=cur.take n) (h:=h) (N:=N) (Zqf pA n) (by rw[gG];omega) (by rw[gG];omega)
  have l10:wl ((10:Nat):Int)<10000000000:=by decide+kernel
  have lpw:wl ((10^n:Nat):Int)<=19:=Fh (Nat.pow_lt_pow_right (by decide) (by omega))
  have Fk:=BB (Zqf pA n)
  have htl:(cur.take n).length=n:=by rw[gG];omega
  rw[htl]at Fk
  have h18:(10:Nat)^n<=10^18:=qz (by decide) (by omega)
  have e18:(10:Nat)^18=1000000000000000000:=by decide
  have lnv:wl ((aG (cur.take n):Nat):Int)<=18:=tk (Fh Fk) (by omega)
  simp[A.nD,hr,hf,ef,c1,c2,zb,Cs,yl,c3,c4,aC]
  refine aB (B0 _ _) ?_
  rintro _ h1 m1 k1 rfl
  have fk:=k1.le
  have f1:=(k1.get (N+1) (by omega)).trans g1
  simp[a4,hr,f1,aO,aD]
  refine aB HD ?_
  rintro _ h2 m2 k2 rfl
  have il:=k2.le
  simp[]
  refine aB (Yq5 (In.small (z:=(10:Nat)) (by omega) (by omega)) (by omega) (by omega) l10 (by omega)) ?_
  rintro vp h3 m3 k3 hvp
  have iN:=k3.le
  simp[]
  refine aB (Dm (((hp.ae k1).ae k2).ae k3) hvp (by omega) (by omega)) ?_
  rintro vm h4 m4 k4 hvm
  have tY:=k4.le
  have lm:=Ib (p:Int) ((10^n:Nat):Int)
  simp[]
  refine aB HD ?_
  rintro _ h5 m5 k5 rfl
  have Ic:=k5.le
  simp[]
  refine aB (Nj (hvm.ae k5) (In.small (z:=((aG (cur.take n):Nat):Int)) (by omega) (by omega)) (by omega) (by omega)) ?_
  rintro va h6 m6 k6 ZH
  have zaG:=k6.le
  have k26:=(((k2.trans k3).trans k4).trans k5).trans k6
  have e1:=(k26.get (N+1) (by omega)).trans f1
  have e2:=(k26.get N (by omega)).trans ((k1.get N (by omega)).trans al)
  obtain⟨n6,u6,rfl,o6⟩:=ZH.cells
  unfold V.one at o6
  have z1:N+1<m1:=by omega
  have z2:N+1<m6:=by omega
  have z3:¬N+1<N:=by omega
  have z4:N+1<m5:=by omega
  simp[hr,hf,a4,ef,e1,o6,z1,z2,z4,ad,bD,aC,c4,ct.cv]
  have Bf:(p:Int)*((10^n:Nat):Int)+((aG (cur.take n):Nat):Int)=((p*10^n+aG (cur.take n):Nat):Int):=by simp
  rw[Bf]at ZH
  refine⟨m-n,by omega,by simp[av,hW,z3],((hK.trans k1).trans k26).set (by omega),by show N+2<=m6;omega,by simp[e2],cur.drop n,p*10^n+aG (cur.take n),n6,u6,by simp,by rw[x_];omega,by omega,Ya5 pA n,by simp,ZH.aI e1 hp.nu rfl,?_⟩
  have h1:=Yc1 (cur.take n) (cur.drop n)
  rw[Cl,x_,cO]at h1
  rw[hv,h1,iU,D7,<-kf,show n+(m-n)=m by omega]
  omega
def Ycm{s:aM}{h:T O}{N:Nat}(hd:cE (bn s)=true)(hl:(bn s).length<=100000):Fn A.C 124 [.str s] h N (fun v h' n'=>In h' n' v (if cF s=true then -(aG (bn s):Int) else (aG (bn s):Int))):=by
 intro w
 rw[aN,A.k124 (by simp)]
 simp[A.b124,Zti,Zj5,aO,aD,ad]
 refine bG [(0,0),(5,7),(13,36)] _ (RT h N (bn s)) (bn s).length ?_ (Ycl hd hl (by simp)) ?_
 ·have kk:=(aL (aL (ab.refl (h:=h) (n:=N)) (.cells [.int .i64 0,.aa] 78 true)) (.cells [.int .i64 0,.aa] 78 true)).set (i:=N+1) (o:=.cells [.int .i64 0,.aa] 78 true) (by omega)
  exact⟨by simp[av],kk,aQ _,by simp,bn s,0,0,.aa,by simp,rfl,aQ _,hd,by simp,In.small (by omega) (by omega),by simp⟩
 rintro e r ⟨h5,m5,W5⟩ hr ⟨rfl,hW,hK,hle,al,cur,p,n1,u1,ef,cO,hms,pA,g1,hp,hv⟩
 simp only at hW hK hle al g1 hp
 have:cur=[]:=q8 cO
 subst this
 have hv:aG (bn s)=p:=by rw[hv];simp[aG]
 have lp:wl (p:Int)<=100000:=by rw[<-hv];exact tk (Fh (BB hd)) hl
 obtain⟨_,_,e5,o5⟩:=hp.cells
 simp only[V.agg.injEq,iY,V.int.injEq,true_and,and_true]at e5
 obtain⟨rfl,rfl⟩:=e5
 unfold V.one at o5
 have fH:¬N<N:=by omega
 cases hn:cF s with
 |true=>
  simp[hr,hn,g1,aO,aD]
  refine aB (JZ hp (by omega)) ?_
  rintro v h6 m6 k6 hv6
  obtain⟨n6,u6,rfl,o6⟩:=hv6.cells
  unfold V.one at o6
  have e0:=(k6.get N (by omega)).trans al
  have xD:=k6.le
  simp[hr,e0,o6,aO,aD,ad,bD,aA,hW]
  exact⟨(hK.trans k6).set (aQ _),by rw[hv];exact hv6.aI e0 (by simp) rfl⟩
 |false=>
  simp[hr,hn,g1,al,o5,aO,aD,ad,bD,aA,hW]
  exact⟨hK.set (aQ _),by rw[hv];exact hp.aI al (by simp) rfl⟩
def A.NM:=A.q Tryz.f177
def A.nE:=A.ql A.NM 0 []
def A.b177:=(fun x0=>A.qb A.NM [x0]) A.nE
def A.k177:=@A.kk 177 15 [.tmp 2] A.b177 (by kernel_rfl) rfl
def Yc5{h:T O}{N:Nat}{v:V}{l:List Int}{w:List Nat}(hs:Sl h N v (dI l))(hl:l.length<1000):A.C.call (.func 177 [] []) [v] ⟨h,N,w⟩=some (.int .i64 (cH l),⟨h,N,w⟩):=by
 apply Call.eq
 have hlen:=hs.len
 rw[ib]at hlen
 rw[aN,A.k177 (by simp)]
 simp[A.b177,hlen]
 refine bG [(2,2),(4,4),(7,14)] (fun e r st=>st=⟨h,N,[]⟩/\((e=.exit 0/\cH l=0)\/(e=.ret/\r.get 2=some (.int .i64 (cH l))))) (fun m r st=>st=⟨h,N,[]⟩/\∃k,m=l.length-k/\k<=l.length/\r.get 7=some (.int .i64 k)/\cH l=cH (l.drop k)) l.length ?_ ?_ ?_
 ·exact⟨rfl,0,by omega,by omega,by simp,by simp⟩
 ·rintro m r _ hr hf ⟨rfl,k,rfl,hk,h7,hz⟩
  rw[bk]
  by_cases ax:k<l.length
  ·obtain⟨c,hc⟩:=bh ax
   obtain⟨i,o,cc,e,rw,q1,q2,q3,q4⟩:=hs.at (ic hc)
   rw[lH hc,cH]at hz
   have bL:(k:Int)<(l.length:Int):=by omega
   by_cases h0:c=0
   ·rw[ay h0]at hz
    simp(disch:=first|(simp;done)|omega|(simp only[bC,cB,bp];omega)|rfl) [A.nE,hr,hf,h7,bL,ax,hlen,q1,q3,q4,aE,h0]
    exact⟨_,by omega,k+1,rfl,by omega,by simp,hz⟩
   ·rw[ak h0]at hz
    simp[A.nE,hr,hf,h7,bL,ax,hlen,q1,q3,q4,aE,h0,hz]
  ·have:l.drop k=[]:=zV (by omega)
   rw[this,cH]at hz
   have:k=l.length:=by omega
   subst this
   simp[A.nE,hr,hf,h7,hlen,hz]
 ·rintro _ r _ hr ⟨rfl,⟨rfl,hz⟩|⟨rfl,h2⟩⟩
  ·simp[hr,hz]
  ·simp[hr,h2]
def HQ{h:T O}{N i:Nat}{w:List Nat}{a0 a1:Int}(hi:i<N):A.C.call (.func 177 [] []) [.slice i 0 2 (some 2) 1] ⟨h.set i (.cells [.int .i64 a0,.int .i64 a1] 29 true),N,w⟩=some (.int .i64 (cH [a0,a1]),⟨h.set i (.cells [.int .i64 a0,.int .i64 a1] 29 true),N,w⟩):=
 Yc5 (l:=[a0,a1]) (Sl.row (e:=29) (rw:=true) (cp:=some 2) hi (by simp[dI]) rfl (by simp)) (by simp)
end
end Go.Mx
