/-
  num.divide: quotient and remainder.
-/
import Derived.Test.YtlbophlgohokkaaGreatDoorNaG
set_option linter.all false
namespace Go.Mx
open Go Go.Proofs
variable {N b:Nat}
set_option maxHeartbeats 8000000
set_option maxRecDepth 1000000
def A.zaX:aq:=sr [bi 98 .lss 97 96]
 (.seq (cd 98
 (.skip)
 (.exit 4))
 (.seq (.block 5 (sr [mv 99 97,mv 15 99]
 (sr [mv 100 11,mv 101 15,ia 102 1 100 101,ld 103 102,mv 104 9,bi 105 .shr 103 104,ia 106 1 100 101,so 106 105]
 (sr [mv 107 9,bc 108 .gtr 107 0,mv 109 108,mg 110 15 109,⟨(some 111),.bin .add (.node []) false (.tmp 110) (.const (.int .i64 1)),(some (109,true))⟩,mg 112 11 109,⟨(some 113),.len 1 (.tmp 112),(some (109,true))⟩,⟨(some 114),.bin .lss (.node []) false (.tmp 111) (.tmp 113),(some (109,true))⟩,pf 115 109 114]
 (cd 115
 (.aS [mv 116 11,mv 117 15,ia 118 1 116 117,ld 119 118,mv 120 11,mv 121 15,bc 122 .add 121 1,ia 123 1 120 122,ld 124 123,mv 125 9,⟨(some 126),.bin .sub (.node []) false (.const (.int .i64 64)) (.tmp 125),none⟩,bi 127 .shl 124 126,bi 128 .or 119 127,ia 129 1 116 117,so 129 128] [0,0,3,7,0,0,32,112,240,0,512,2032,4095,8191,16383])
 (.skip))))))
 (.aL [bc 130 .add 97 1,mv 97 130])))
def A.za_:aq:=.seq (sr [mv 80 14,bc 81 .geq 80 0]
 (cd 81
 (.skip)
 (.exit 2)))
 (.seq (.block 3 (.aL [mv 84 13,mv 85 14,mv 86 11,mv 87 14,mv 88 14,mv 89 12,bi 90 .add 88 89,bc 91 .add 90 1,⟨(some 92),.cP 1 (.tmp 86) (some (.tmp 87)) (some (.tmp 91)) none,none⟩,mv 93 10,c2 94 274 92 93,ia 95 1 84 85,so 95 94]))
 (.aL [mv 82 14,bc 83 .sub 82 1,mv 14 83]))
def A.zba:aq:=.seq (sr [mv 30 8,bc 31 .geq 30 0]
 (cd 31
 (.skip)
 (.exit 0)))
 (.seq (.block 1 (.aS [mv 35 6,mv 36 8,mv 37 7,mv 38 0,mv 39 8,ia 40 1 38 39,ld 41 40,mv 42 1,⟨(some 43),.aI 1 (.tmp 42) (.const (.int .i64 0)),none⟩,ld 44 43,⟨(some 45),.call (.const (.func 271 [] [])) [(.tmp 37),(.tmp 41),(.tmp 44)],none⟩,mv 34 45,xt 46 34 0,xt 47 34 1,ia 48 1 35 36,so 48 46,mv 7 47] [0,0,0,0,0,24,56,0,128,384,1020,2044,4092,4092,8191,24575,65535]))
 (.aL [mv 32 8,bc 33 .sub 32 1,mv 8 33]))
def A.b242:aq:=sr [mN 4,mN 5]
 (.seq (sr [mv 16 0,mv 17 1,c2 18 250 16 17,bc 19 .lss 18 0]
 (cd 19
 (sr [mv 20 0,mN 4,mv 5 20]
 (.ret))
 (.skip)))
 (.seq (sr [mv 21 1,ln 22 21,ei 23 22 1]
 (cd 23
 (sr [mv 24 0,ln 25 24,⟨(some 26),.bD 214 1 8 [(.int .u64 0)] (.tmp 25) (.tmp 25),none⟩,mv 6 26]
 (sr [⟨(some 7),.aZ (.const (.int .u64 0)),none⟩]
 (.seq (sr [mv 27 0,ln 28 27,bc 29 .sub 28 1,mv 8 29]
 (.block 0 (.loop A.zba)))
 (sr [mv 49 6,c1 50 263 49,mv 51 7,⟨(some 52),.aY 214 1 1 [(.int .u64 0)] [(0,1,(.tmp 51))],none⟩,c1 53 263 52,mv 4 50,mv 5 53]
 (.ret)))))
 (.skip)))
 (sr [mv 54 1,mv 55 1,ln 56 55,bc 57 .sub 56 1,ia 58 1 54 57,ld 59 58,c1 60 272 59,mv 9 60]
 (sr [mv 61 1,mv 62 9,c2 63 273 61 62,c1 64 263 63,mv 10 64]
 (sr [mv 65 0,mv 66 9,c2 67 273 65 66,mv 11 67]
 (sr [mv 68 10,ln 69 68,mv 12 69]
 (sr [mv 70 0,ln 71 70,mv 72 12,bi 73 .sub 71 72,bc 74 .add 73 1,⟨(some 75),.bD 214 1 8 [(.int .u64 0)] (.tmp 74) (.tmp 74),none⟩,mv 13 75]
 (.seq (sr [mv 76 0,ln 77 76,mv 78 12,bi 79 .sub 77 78,mv 14 79]
 (.block 2 (.loop A.za_)))
 (.seq (sr [mv 96 12,mc 97 0]
 (.block 4 (.loop A.zaX)))
 (.seq (.aS [mv 131 13,c1 132 263 131,mv 133 11,mv 134 12,⟨(some 135),.cP 1 (.tmp 133) none (some (.tmp 134)) none,none⟩,c1 136 263 135,mv 4 132,mv 5 136] [0,1,0,0,12,31,63,127])
 (.ret)))))))))))
theorem A.c242:A.F 242=some ⟨137,[.tmp 4,.tmp 5],A.b242⟩:=by kernel_rfl
def A.k242:=@A.kk 242 _ _ _ A.c242 rfl
theorem Yj7{x y s:Nat}(hx:x<B)(h0:0<s)(hs:s<64):ib (al x s) (bK y (64-s))<B/\2^s*ib (al x s) (bK y (64-s))+x%2^s=x+B*(y%2^s):=by
 have hc:al x s<2^(64-s):=by
  unfold al
  apply (mq (oG s)).2
  rw[<-jr,show 64-s+s=64 by omega];exact hx
 rw[KR (by omega) hc]
 refine⟨Wo (by omega) hc,?_⟩
 have e:bK y (64-s)=(y%2^s)*2^(64-s):=by
  unfold bK
  have:(18446744073709551616:Nat)=2^s*2^(64-s):=by rw[<-jr,show s+(64-s)=64 by omega]
  rw[this,FM]
 have e2:2^s*(y%2^s*2^(64-s))=B*(y%2^s):=by
  have:B=2^s*2^(64-s):=by rw[<-jr,show s+(64-s)=64 by omega];rfl
  rw[this]
  generalize 2^s=p
  generalize 2^(64-s)=q
  grind
 rw[e,oH,e2]
 unfold al
 have:=pG x (2^s)
 omega
structure KS (h:T O) (N iq:Nat) (X:List Nat) (b m:Nat) (r:T V) (st:St):Prop where
 n:st.n=N+1
 w:au N st.w=[]
 ad:ab h N st.h (N+1)
 ex:∃(rest:Nat) (Q:List Nat),m<=X.length/\r.get 8=some (.int .i64 ((m:Int)-1))/\r.get 7=some (.int .u64 rest)/\st.h.get N=some (.cells (dg Q) 214 true)/\Q.length=X.length/\Dg Q/\val B (X.drop m)=b*val B (Q.drop m)+rest/\rest<b
theorem Yhm{h:T O}{N b:Nat}{va vb:V}{X:List Nat}{r0:T V}(ha:Sl h N va (dg X))(hb:Sl h N vb (dg [b]))(dA:Dg X)(hbB:b<B)(hl:X.length<1099511627776)
  (a0:r0.get 0=some va) (a1:r0.get 1=some vb) (a6:r0.get 6=some (.slice N 0 X.length (some X.length) 1)):
  ∀k r st,(∀t,iK [(7,8),(30,48)] t=false->r.get t=r0.get t)->Fx [(7,8),(30,48)] r0 137 ⟨r,137,[]⟩->KS h N N X b k r st->Code A.C none A.zba ⟨r,137,[]⟩ st (Rd [(7,8),(30,48)] r0 137 (KS h N N X b) k (fun e r st=>e=.exit 0/\KS h N N X b 0 r st)):=by
 rintro m r ⟨H,n1,W⟩ hr hf ⟨hn,hW,hK,rest,Q,hm,h8,h7,aj,hQ,dQ,he,aB⟩
 simp only at hn hW hK aj
 subst hn
 have la:=ha.len
 have lb:=hb.len
 rw[bC]at la lb
 rw[bn]
 cases m with
 |zero=>
  simp[A.zba,hf,h8]
  exact⟨rfl,hW,hK,rest,Q,by omega,by simp[h8],by simp[h7],aj,hQ,dQ,he,aB⟩
 |succ m=>
  have gx:=cW (l:=X) (i:=m) (by omega)
  generalize X[m]'(by omega)=x at*
  have hx:x<B:=dA.get gx
  obtain⟨i1,o1,c1,e1,w1,p1,p2,p3,p4⟩:=ha.at (eP gx)
  have p3:=(hK.get _ p2).trans p3
  obtain⟨i2,o2,c2,e2,w2,q1,q2,q3,q4⟩:=hb.at (eP (l:=[b]) (j:=0) rfl)
  have q3:=(hK.get _ q2).trans q3
  rw[jR]at q4
  have gq:=cW (l:=Q) (i:=m) (by omega)
  have jo:((m+1:Nat):Int)-1=(m:Int):=by omega
  have oe:m<X.length:=by omega
  have vL:i1<N+1:=by omega
  have KT:i2<N+1:=by omega
  have zah:¬i1=N:=by omega
  have kX:¬i2=N:=by omega
  have zai:¬N=i1:=by omega
  have zaj:¬N=i2:=by omega
  rw[jo]at h8
  have hd:=Wp (h:=H) (N:=N+1) aB hbB hx
  obtain⟨q,hq⟩:∃q,(rest*18446744073709551616+x)/b=q:=⟨_,rfl⟩
  obtain⟨rr,yR⟩:∃q,(rest*18446744073709551616+x)%b=q:=⟨_,rfl⟩
  rw[hq,yR]at hd
  have hinv:b*q+rr=rest*B+x:=by
   have:=pG (rest*18446744073709551616+x) b
   rw[hq,yR]at this
   exact this
  have mV:rr<b:=by rw[<-yR];exact jd _ (by omega)
  have sE:q<B:=by
   rw[<-hq];apply (mq (by omega)).2
   have:=kl B (show rest+1<=b by omega)
   rw[gX B b]
   rw[jG]at this
   unfold B at*;omega
  simp[A.zba,hr,h8,h7,la,lb,a0,a1,a6,p1,p3,p4,q1,q3,q4,oe,vL,KT]
  refine ax hd ?_
  rintro _ H n2 xq ⟨rfl,rfl,rfl⟩
  simp(disch:=first|(simp;done)|omega|(simp only[bC,cl,bq];omega)|rfl) [hf,h8,aj,mO]
  refine⟨m,by omega,rfl,by simp[au,hW],hK.set (aV _),rr,Q.set m q,by omega,by simp,by simp,by simp,by simp[hQ],dQ.pj sE,?_,mV⟩
  rw[xr gx,xr (fy (by omega)),List.drop_set_of_lt (by omega),he,oH,oH]
  have:B*(b*val B (Q.drop (m+1)))=b*(B*val B (Q.drop (m+1))):=by grind
  rw[gX rest]at hinv
  omega
structure KU (N n2:Nat) (h2:T O) (iu iq Nq lu k A0:Nat) (Y:List Nat) (m:Nat) (r:T V) (st:St):Prop where
 n:st.n=Nq
 w:au n2 st.w=[]
 ad:ab h2 n2 st.h Nq
 ex:∃(U Q:List Nat),r.get 14=some (.int .i64 ((m:Int)-1))/\st.h.get iu=some (.cells (dg U) 214 true)/\st.h.get iq=some (.cells (dg Q) 214 true)/\U.length=lu/\Q.length+(k+2)=lu/\m<=Q.length/\Dg U/\Dg Q/\(∀t,m+k+2<=t->t<lu->U[t]?=some 0)/\val B (U.drop m)<val B Y/\val B U+B^m*(val B (Q.drop m)*val B Y)=A0
theorem Yhl{h2:T O}{N n2 iu iq Nq lu k v1 A0:Nat}{Y:List Nat}{v:V}{r0:T V}{cq:Option Nat}(hv:Sl h2 n2 v (dg Y))(hY:Y.length=k+2)(dY:Dg Y)(mW:lu<1099511627776)(f1:Y[k+1]?=some v1)(ko:0<v1)(Hj:n2<=iu)(AD:iu<iq)(hq:iq<Nq)
  (nZ:k+2<lu) (xK:r0.get 10=some v) (wC:r0.get 11=some (.slice iu 0 lu (some lu) 1)) (wD:r0.get 12=some (.int .i64 ((k:Int)+2))) (a13:r0.get 13=some (.slice iq 0 (lu-(k+2)) cq 1)):
  ∀x r st,(∀t,iK [(14,14),(80,95)] t=false->r.get t=r0.get t)->Fx [(14,14),(80,95)] r0 137 ⟨r,137,[]⟩->KU N n2 h2 iu iq Nq lu k A0 Y x r st->Code A.C none A.za_ ⟨r,137,[]⟩ st (Rd [(14,14),(80,95)] r0 137 (KU N n2 h2 iu iq Nq lu k A0 Y) x (fun e r st=>e=.exit 2/\KU N n2 h2 iu iq Nq lu k A0 Y 0 r st)):=by
 rintro m r ⟨H,n1,W⟩ hr hf ⟨hn,hW,hK,U,Q,n9,hU,hQ,lU,lQ,hm,dU,dQ,hz,aB,he⟩
 simp only at hn hW hK hU hQ
 subst hn
 rw[bn]
 cases m with
 |zero=>
  simp[A.za_,hf,n9]
  exact⟨rfl,hW,hK,U,Q,by simp[n9],hU,hQ,lU,lQ,hm,dU,dQ,hz,aB,he⟩
 |succ m=>
  have jo:((m+1:Nat):Int)-1=(m:Int):=by omega
  rw[jo]at n9
  have gu:=cW (l:=U) (i:=m) (by omega)
  generalize U[m]'(by omega)=um at*
  have zak:um<B:=dU.get gu
  have hsK:lW ⟨H,n1,W⟩ 1 (some (.slice iu 0 lu (some lu) 1)) (some (some (.int .i64 m))) (some (some (.int .i64 ((m:Int)+((k:Int)+2)+1)))) (some none)=some (.slice iu m (k+3) (some (lu-m)) 1,⟨H,n1,W⟩):=by
   have e1:(0:Int)<=(m:Int)+((k:Int)+2)+1/\(m:Int)+((k:Int)+2)+1<=(lu:Int):=by omega
   have e2:((m:Int)+((k:Int)+2)+1).toNat=m+k+3:=by omega
   have e3:¬lu=m:=by omega
   have e4:m<=m+k+3:=by omega
   have e5:m+k+3-m=k+3:=by omega
   have e6:(m:Int)<=((m+k+3:Nat):Int):=by omega
   simp only[lW,mA,ay,cX,iP,Option.map,Src.ev,e1,e2,e3,e5,e6,and_self,if_true,if_false,Int.natCast_nonneg,Int.toNat_natCast,ne_eq,not_true_eq_false,Option.isSome,Option.isNone,Br,false_or,eL,qm,tk]
  have hmq:m<lu-(k+2):=by omega
  simp(disch:=first|(simp;done)|omega|(simp only[bC,cl,bq];omega)|rfl) [A.za_,hr,n9,xK,wC,wD,a13,zu,ay,hsK]
  refine xd (Yaj (n2:=n2) (k:=k) (U:=U) (v1:=v1) (hv.ad ⟨aV _,fun i hi=>hK.get i hi⟩) hY dY Hj (by omega) (by omega) (by omega) hU dU f1 ko (fun t h1 h2=>hz t (by omega) (by omega)) ?_) ?_
  ·rw[xr gu]
   have:=jc B aB
   rw[Nat.mul_succ]at this
   omega
  rintro x ⟨H2,n3,W2⟩ ⟨s1,s2,s3,q,o,rfl,s4,s5,s6,s7,s8,s9,s10,s11⟩
  simp only at s1 s2 s3 s5
  subst s1
  have Hk:H2.get iq=some (.cells (dg Q) 214 true):=by rw[s3 iq (by omega)];exact hQ
  simp(disch:=first|(simp;done)|omega|(simp only[bC,cl,bq];omega)|rfl) [hf,n9,Hk,mO]
  have qI:¬iq<n2:=by omega
  have hHe:∀i,i<n2->(H2.set iq (.cells (dg (Q.set m q)) 214 true)).get i=h2.get i:=fun i hi=>by
   rw[T.ah,ar (by omega),s3 i (by omega)];exact hK.get i hi
  refine⟨m,by omega,rfl,?_,⟨by omega,hHe⟩,o,Q.set m q,by simp,by simp[s5,(show ¬iu=iq by omega)],by simp,by omega,by simp;omega,by simp;omega,s7,dQ.pj s4,?_,s11,?_⟩
  ·simp only[au,qI,if_false]
   rw[s2];exact hW
  ·intro t h1 jF
   exact s9 t (by omega) (by omega)
  ·have eU:=AE B U m (by omega)
   have eO:=AE B o m (by omega)
   have et:o.take m=U.take m:=by
    apply iW
    intro t
    rw[gU,gU]
    split
    ·exact s8 t (by omega)
    ·rfl
   rw[xr (fy (by omega)),List.drop_set_of_lt (by omega),eO,et]
   rw[eU,<-s10,fJ]at he
   rw[<-he]
   generalize val B (U.take m)=z1
   generalize val B (o.drop m)=z2
   generalize val B Y=z3
   generalize val B (Q.drop (m+1))=z4
   generalize B^m=z5
   grind
structure KV (n2:Nat) (h2:T O) (iu iq Nq lu n s:Nat) (U Q:List Nat) (m:Nat) (r:T V) (st:St):Prop where
 hn:st.n=Nq
 w:au n2 st.w=[]
 ad:ab h2 n2 st.h Nq
 q:st.h.get iq=some (.cells (dg Q) 214 true)
 ex:∃(i:Nat) (o:List Nat),i+m=n/\r.get 97=some (.int .i64 i)/\st.h.get iu=some (.cells (dg o) 214 true)/\o.length=lu/\Dg o/\(∀t,i<=t->o[t]?=U[t]?)/\2^s*val B (o.take i)=val B (U.take i)+B^i*(dz U i%2^s)
theorem Yfg{h2:T O}{n2 iu iq Nq lu n s:Nat}{U Q:List Nat}{r0:T V}{cu:Option Nat}(mW:lu<1099511627776)(lU:U.length=lu)(dU:Dg U)(hs:s<64)(Hj:n2<=iu)(AD:iu<iq)(hq:iq<Nq)(hn:n<lu)
  (a9:r0.get 9=some (.int .i64 s)) (wC:r0.get 11=some (.slice iu 0 lu cu 1)) (Qm:r0.get 96=some (.int .i64 n)):
  ∀x r st,(∀t,iK [(15,15),(97,130)] t=false->r.get t=r0.get t)->Fx [(15,15),(97,130)] r0 137 ⟨r,137,[]⟩->KV n2 h2 iu iq Nq lu n s U Q x r st->Code A.C none A.zaX ⟨r,137,[]⟩ st (Rd [(15,15),(97,130)] r0 137 (KV n2 h2 iu iq Nq lu n s U Q) x (fun e r st=>e=.exit 4/\KV n2 h2 iu iq Nq lu n s U Q 0 r st)):=by
 rintro m r ⟨H,n1,W⟩ hr hf ⟨xl,hW,hK,hQ,i,o,hi,Hl,aj,lo,dO,dB,he⟩
 simp only at xl hW hK hQ aj
 subst xl
 rw[bn]
 cases m with
 |zero=>
  have:i=n:=by omega
  subst this
  simp[A.zaX,hr,hf,Hl,Qm]
  exact⟨rfl,hW,hK,hQ,i,o,by omega,by simp[Hl],aj,lo,dO,dB,he⟩
 |succ m=>
  have aB:i<n:=by omega
  have gx:U[i]?=some (U[i]'(by omega)):=cW (by omega)
  have gy:U[i+1]?=some (U[i+1]'(by omega)):=cW (by omega)
  generalize U[i]'(by omega)=x at*
  generalize U[i+1]'(by omega)=y at*
  have hx:x<B:=dU.get gx
  have hy:y<B:=dU.get gy
  have ox:o[i]?=some x:=by rw[dB i (aV _)];exact gx
  have oy:o[i+1]?=some y:=by rw[dB (i+1) (by omega)];exact gy
  have A9:i<lu:=by omega
  have zal:i+1<lu:=by omega
  have Qn:(i:Int)+1<(lu:Int):=by omega
  have mI:dz U i=x:=by simp[dz,gx]
  have hzy:dz U (i+1)=y:=by simp[dz,gy]
  have qI:¬iu<n2:=by omega
  have hiu:iu<n1:=by omega
  have Wq:¬iq=iu:=by omega
  have Wr:al x s<B:=VQ hx
  have Ws:al x s<18446744073709551616:=Wr
  have zam:x<18446744073709551616:=hx
  have Ct:y<18446744073709551616:=hy
  have mE:(s:Int)<=64:=by omega
  have K1:=fun v1 v2=>(hK.set (o:=v1) Hj).set (i:=iu) (o:=v2) Hj
  by_cases h0:0<s
  ·have pQ:(0:Int)<(s:Int):=by omega
   obtain⟨z1,z2⟩:=Yj7 (y:=y) hx h0 hs
   have ox2:(o.set i (al x s))[i]?=some (al x s):=fy (by omega)
   have oy2:(o.set i (al x s))[i+1]?=some y:=by rw[dr (by omega)];exact oy
   have qM:(o.set i (al x s)).length=lu:=by simp[lo]
   have Cu:bk .i64 (64-(s:Int))=((64-s:Nat):Int):=by rw[ct (by omega) (by omega)];omega
   simp(disch:=first|(simp;done)|omega|(simp only[bC,cl,bq];omega)|rfl) [-getElem?_pos,A.zaX,hr,hf,Hl,Qm,a9,wC,aB,aj,eP ox,mO,h0,Qn,Cu,eP ox2,eP oy2,hiu]
   refine⟨m,by omega,rfl,by simp[au,hW,qI],K1 _ _,by simp[Wq,hQ],i+1,(o.set i (al x s)).set i (ib (al x s) (bK y (64-s))),by omega,by simp,by simp,by simp[lo],(dO.pj Wr).pj z1,?_,?_⟩
   ·intro t ht
    rw[dr (by omega),dr (by omega)]
    exact dB t (by omega)
   ·rw[List.set_set,yN,yN,mI,hzy,show dz (o.set i (ib (al x s) (bK y (64-s)))) i=ib (al x s) (bK y (64-s)) by simp[dz,fy (show i<o.length by omega)]]
    have ht:(o.set i (ib (al x s) (bK y (64-s)))).take i=o.take i:=by
     apply iW
     intro t
     rw[gU,gU]
     split
     ·rw[dr (by omega)]
     ·rfl
    rw[ht]
    rw[mI]at he
    have e2:B^i*(2^s*ib (al x s) (bK y (64-s))+x%2^s)=B^i*(x+B*(y%2^s)):=by rw[z2]
    rw[fJ]
    generalize ib (al x s) (bK y (64-s))=z at*
    generalize val B (o.take i)=y1 at*
    generalize val B (U.take i)=y2 at*
    generalize x%2^s=y3 at*
    generalize y%2^s=y4 at*
    generalize (2:Nat)^s=y5 at*
    generalize B^i=y6 at*
    clear z2 ht K1
    grind
  ·have rK:s=0:=by omega
   subst rK
   have z0:al x 0=x:=by unfold al;simp
   have Hm:o.set i x=o:=by
    apply iW
    intro t
    by_cases ht:t=i
    ·subst ht;rw[fy (by omega),ox]
    ·rw[dr (by omega)]
   simp(disch:=first|(simp;done)|omega|(simp only[bC,cl,bq];omega)|rfl) [-getElem?_pos,A.zaX,hr,hf,Hl,Qm,a9,wC,aB,aj,eP ox,mO,z0,Hm]
   refine⟨m,by omega,rfl,by simp[au,hW,qI],hK.set Hj,by simp[Wq,hQ],i+1,o,by omega,by simp,by simp,lo,dO,fun t ht=>dB t (by omega),?_⟩
   rw[yN,yN,mI,show dz o i=x by simp[dz,ox]]
   have:dz U i%2^0=0:=Nat.mod_one _
   rw[this]at he
   simp only[zL,Nat.one_mul,Nat.mod_one,Nat.mul_zero,jR]at he ⊢
   omega
theorem Yjq(h:(aD b).length=1):aD b=[b]/\b<B:=by
 obtain⟨h1,h2⟩:=Cv (k:=0) h
 rw[zL]at h1
 rw[qm,Nat.pow_one]at h2
 refine⟨?_,h2⟩
 rw[j0 (by omega),uK h2,nG,sK h2]
theorem Ye2{r:Nat}(h:r<B):n8 [r]=aD r:=by
 rw[yO (by intro d hd;simp at hd;subst hd;exact h)]
 simp[val]
theorem Wu{h:T O}{u v:V}{a:Nat}(hu:Wn h N u a)(hv:Wn h N v b)(hb:0<b)(hl:(aD a).length<1000000000)(jq:(aD b).length<1000000000):Fn A.C 242 [u,v] h N (fun x h' n'=>∃q r,x=.bb [q,r]/\Wn h' n' q (a/b)/\Wn h' n' r (a%b)):=by
 intro w
 have lu:=hu.len
 have lv:=hv.len
 rw[bC]at lu lv
 rw[aP,A.k242 (by simp)]
 simp[A.b242]
 refine ax (Wg hu hv (by omega) (by omega)) ?_
 rintro _ h1 n1 k1 rfl
 by_cases aB:a<b
 ·have c1:qL a b= -1:=by simp[qL,aB]
  simp[c1,aA]
  refine⟨k1,_,_,⟨rfl,rfl⟩,?_,?_⟩
  ·rw[uK aB];unfold Wn;rw[nG];exact Sl.nil
  ·rw[sK aB];exact hu.ad k1
 ·have c1:¬qL a b<0:=by
   unfold qL
   rw[ar (by omega)]
   split<;>omega
  have uY:=hu.ad k1
  have ko:=hv.ad k1
  have hle:=Az (a:=b) (b:=a) (by omega)
  by_cases h1l:(aD b).length=1
  ·obtain⟨e1,e2⟩:=Yjq h1l
   have Hn:((aD b).length:Int)=1:=by omega
   have Cw:Sl h1 n1 v (dg [b]):=by rw[<-e1];exact ko
   simp(disch:=first|(simp;done)|omega|(simp only[bC,cl,bq];omega)|rfl) [c1,lv,h1l,lu]
   refine bN [(7,8),(30,48)] _ (KS h1 n1 n1 (aD a) b) (aD a).length ?_ (Yhm uY Cw (nH a) e2 (by omega) (by simp) (by simp) (by simp)) ?_
   ·refine⟨rfl,by simp,ab.refl.new _,0,List.replicate (aD a).length 0,aV _,by simp,by simp,by simp[Cm],by simp,?_,?_,hb⟩
    ·intro d hd
     rw[DS]at hd
     rw[hd.2];decide
    ·simp[val]
   rintro e r ⟨H,n2,W⟩ hr ⟨rfl,hn,hW,hK,rest,Q,hm,h8,h7,aj,hQ,dQ,he,mV⟩
   simp only at hn hW hK aj
   subst hn
   simp[hr]
   refine ax (yP (l:=Q) (Sl.row (e:=214) (rw:=true) (by omega) aj (by rw[bC];exact hQ) (by simp)) (by omega)) ?_
   rintro q2 h3 n3 k3 hq
   simp[h7,ag]
   have k4:ab h3 n3 (h3.set n3 (.cells [.int .u64 rest] 214 true)) (n3+1):=ab.refl.new _
   have hs5:Sl (h3.set n3 (.cells [.int .u64 rest] 214 true)) (n3+1) (.slice n3 0 1 (some 1) 1) (dg [rest]):=Sl.row (e:=214) (rw:=true) (L:=1) (qk n3) (by simp[dg]) (by simp) (by simp)
   refine ax (yP hs5 (by simp)) ?_
   rintro r2 h5 n5 k5 cR
   simp only[tu,j9]at he
   have Cy:val B Q=a/b:=by
    rw[he,Nat.mul_add_div hb,uK mV];omega
   have tW:rest=a%b:=by
    rw[he,Nat.mul_add_mod,sK mV]
   rw[yO dQ,Cy]at hq
   rw[Ye2 (by omega),tW]at cR
   simp[aA]
   exact⟨EL k1.le hW,((k1.trans hK).trans k3).trans (k4.trans k5),_,_,⟨rfl,rfl⟩,(hq.ad k4).ad k5,cR⟩
  ·have Pb:(aD b).length≠0:=by
    rw[j0 (by omega)];simp
   obtain⟨k,hk⟩:∃k,(aD b).length=k+2:=⟨(aD b).length-2,by omega⟩
   have Hn:¬(k:Int)+2=1:=by omega
   have gt:=cW (l:=aD b) (i:=k+1) (by omega)
   generalize (aD b)[k+1]'(by omega)=bt at*
   have Ho:bt<B:=(nH b).get gt
   have Qo:¬bt=0:=by
    obtain⟨w1,w2⟩:=Cv (k:=k+1) hk
    have:=(Hp w1 w2).2
    rw[gt]at this
    have e:=pq this
    have hp:0<B^(k+1):=uL (by decide)
    have:=(DR hp).2 (by rw[Nat.one_mul];exact w1)
    omega
   obtain⟨m1,m2,m3⟩:=Wv Qo Ho
   have V0:=fun (h:T O) (N:Nat)=>Wm (h:=h) (N:=N) (x:=bt) Ho
   generalize hs:64-a_ bt=s at*
   obtain⟨i1,o1,Jw,e1,w1,p1,p2,p3,p4⟩:=ko.at (eP gt)
   have t1:((k:Int)+2-1)=(k:Int)+1:=by omega
   rw[hk]at lv
   simp(disch:=omega) [c1,lv,p1,p3,p4,t1,Hn]
   refine ax (V0 _ _) ?_
   rintro _ h1 n1 k2 ⟨rfl,rfl,rfl⟩
   simp
   refine ax (Ww ko (nH b) m3 (by omega)) ?_
   rintro vv h2 n2 k3 ⟨iv,ov,g1,g2,rfl,g3,g4,g5,g6⟩
   simp
   refine ax (yP (l:=ov) (Sl.row (e:=214) (rw:=true) g2 g3 (by rw[bC];exact g4) (by simp)) (by omega)) ?_
   rintro vy h3 n3 k4 hy
   rw[yO g5,g6,j9]at hy
   obtain⟨y1,v1,y2,y3⟩:=Yev hk gt m1 m2 (by omega)
   have ly:=Sl.len hy
   rw[bC,y1]at ly
   have ly:kq vy=some (k+2):=ly
   obtain⟨L,hL⟩:∃L,L+(k+2)=(aD a).length+1:=⟨(aD a).length+1-(k+2),by omega⟩
   have hLi:((aD a).length:Int)-((k:Int)+2)=(L:Int)-1:=by omega
   simp[]
   refine ax (Ww ((uY.ad k3).ad k4) (nH a) m3 (by omega)) ?_
   rintro uu h4 n4 k5 ⟨iu,ou,j1,j2,rfl,j3,j4,j5,j6⟩
   simp(disch:=first|(simp;done)|omega|(simp only[bC,cl,bq];omega)|rfl) [ly,lu,hLi,Cm]
   have xu:0<v1:=by omega
   have k6:ab h4 n4 (h4.set n4 (.cells (dg (List.replicate L 0)) 214 true)) (n4+1):=ab.refl.new _
   have hyv:v1*B^(k+1)<=val B (aD (b*2^s)):=by
    obtain⟨w1,w2⟩:=Cv (k:=k+1) y1
    have:=(Hp w1 w2).2
    rw[y2]at this
    have e:=pq this
    rw[j9,e]
    exact Nat.div_mul_le_self _ _
   refine bN [(14,14),(80,95)] _ (KU N n3 h3 iu n4 (n4+1) ((aD a).length+1) k (a*2^s) (aD (b*2^s))) L ?_ (Yhl (cq:=some L) (v1:=v1) hy (by omega) (nH _) (by omega) (by rw[y2]) xu j1 j2 (qk n4) (by omega) (by simp) (by simp) (by simp) ?_) ?_
   ·have bA:¬iu=n4:=by omega
    refine⟨rfl,rfl,(k5.trans k6),ou,List.replicate L 0,by simp,by simp[bA,j3],by simp,j4,by simp;omega,by simp,j5,?_,fun t Qp tX=>by omega,?_,?_⟩
    ·intro d hd
     rw[DS]at hd
     rw[hd.2];decide
    ·have Qq:a≠0:=by omega
     have xw:(aD a).length≠0:=by rw[j0 Qq];simp
     obtain⟨Wx,Hq⟩:∃x,(aD a).length=x+1:=⟨(aD a).length-1,by omega⟩
     have eH:=(Cv Hq).2
     rw[<-Hq]at eH
     rw[j9]at j6
     exact Yad (k:=k+1) j6 j4 (by omega) (by omega) eH m3 y3 hyv
    ·simp[val,j6,j9]
   ·have:(aD a).length+1-(k+2)=L:=by omega
    simp[this]
   rintro e r ⟨H,n5,W⟩ hr ⟨rfl,hn,hW,hK,U,Q,n9,hU,hQ,lU,lQ,hm,dU,dQ,hz,dW,he⟩
   simp only at hn hW hK hU hQ
   subst hn
   simp only[tu,zL,Nat.one_mul]at he dW
   simp[hr]
   refine bN [(15,15),(97,130)] _ (KV n3 h3 iu n4 (n4+1) ((aD a).length+1) (k+2) s U Q) (k+2) ?_ (Yfg (cu:=some ((aD a).length+1)) (by omega) lU dU m3 j1 j2 (qk n4) (by omega) (by simp[hr]) (by simp[hr]) (by simp)) ?_
   ·refine⟨rfl,hW,hK,hQ,0,U,by omega,by simp,hU,lU,dU,fun _ _=>rfl,?_⟩
    obtain⟨x,hx⟩:∃x,val B U=2^s*x:=by
     refine⟨a-val B Q*b,?_⟩
     rw[j9]at he
     rw[Nat.mul_sub,gX _ a,<-he]
     have:val B Q*(b*2^s)=2^s*(val B Q*b):=by grind
     omega
    have nY:dz U 0%2^s=0:=by
     have h1:=yN (b:=B) (l:=U) (k:=0)
     have h2:=AE B U 1 (by omega)
     simp only[List.take_zero,val,zL,Nat.one_mul,qm,Nat.pow_one]at h1 h2
     rw[h1,hx]at h2
     have h3:B=2^s*2^(64-s):=by rw[<-jr,show s+(64-s)=64 by omega];rfl
     rw[h3,zK]at h2
     have h4:dz U 0=2^s*(x-2^(64-s)*val (2^s*2^(64-s)) (U.drop 1)):=by rw[Nat.mul_sub];omega
     rw[h4,Nat.mul_mod_right]
    rw[nY];simp[val]
   rintro e r2 ⟨H2,n5,W2⟩ cR ⟨rfl,eF,eN,kY,Wy,i,o,hi,Hl,aj,lo,dO,dB,qe⟩
   simp only at eF eN kY Wy aj
   subst eF
   have:i=k+2:=by omega
   subst this
   simp[cR,hr]
   refine ax (yP (l:=Q) (Sl.row (e:=214) (rw:=true) (qk n4) Wy (by rw[bC];omega) (by simp)) (by omega)) ?_
   rintro q2 h6 n6 k6 hq
   have Qr:Sl h6 n6 (.slice iu 0 ((aD a).length+1) (some ((aD a).length+1)) 1) (dg o):=(Sl.row (h:=H2) (N:=n4+1) (by omega) aj (by rw[bC];exact lo) (by simp)).ad k6
   obtain⟨v',e1,e2⟩:=Ba (w:=[]) Qr (lo:=0) (hi:=k+2) (pC _) (by rw[bC];omega) none (some (.int .i64 ((k+2:Nat):Int))) (.inr ⟨rfl,rfl⟩) (.inl rfl)
   rw[show ((k+2:Nat):Int)=(k:Int)+2 by omega]at e1
   simp[cR,hr,zu,ay,e1]
   rw[tu,show (dg o).take (k+2)=dg (o.take (k+2)) by simp[dg]]at e2
   refine ax (yP (l:=o.take (k+2)) e2 (by rw[gK];omega)) ?_
   rintro r3 h7 n7 k7 Hr
   rw[yO dQ]at hq
   rw[yO (fun d hd=>dO d (uC hd))]at Hr
   rw[j9]at he dW
   have hbs:0<b*2^s:=wQ hb (oG s)
   have Cz:dz U (k+2)=0:=by simp[dz,hz (k+2) (by omega) (by omega)]
   have hUt:val B (U.take (k+2))=val B U:=by
    have h1:=AE B U (k+2) (by omega)
    rw[Qs (fun t t1 t2=>hz t (by omega) (by omega))]at h1
    omega
   have Cy:val B Q=a/b:=by
    have h1:a*2^s/(b*2^s)=val B Q:=by
     rw[<-he,Nat.add_mul_div_right _ _ hbs,uK dW];omega
    rw[JJ _ _ (oG s)]at h1
    exact h1.symm
   have tW:val B (o.take (k+2))=a%b:=by
    have h1:a*2^s%(b*2^s)=val B U:=by
     rw[<-he,Nat.add_mul_mod_self_right,sK dW]
    rw[FM,gX]at h1
    rw[Cz,Nat.zero_mod,Nat.mul_zero,jR,hUt,<-h1]at qe
    exact Nat.eq_of_mul_eq_mul_left (oG s) qe
   rw[Cy]at hq
   rw[tW]at Hr
   simp[dn.dp,aA]
   have kk:=(k1.trans k3).trans k4
   exact⟨EL kk.le eN,((kk.trans kY).trans k6).trans k7,q2,r3,⟨rfl,rfl⟩,Sl.ad hq k7,Hr⟩
end Go.Mx
