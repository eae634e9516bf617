/-
  num.divide: quotient and remainder.
-/
import Derived.Test.YtlbophlgohokkaaGreatDoorNaG
set_option linter.all false
namespace Go.Mx
open Go Go.Proofs
variable {N b:Nat}
set_option maxHeartbeats 8000000
set_option maxRecDepth 1000000
def A.iU:aq:=sr [bi 98 .lss 97 96]
 (.seq (cd 98
 (.skip)
 (.exit 4))
 (.seq (.block 5 (sr [mv 99 97,mv 15 99]
 (sr [mv 100 11,mv 101 15,ia 102 1 100 101,ld 103 102,mv 104 9,bi 105 .shr 103 104,ia 106 1 100 101,so 106 105]
 (sr [mv 107 9,bc 108 .gtr 107 0,mv 109 108,mg 110 15 109,⟨(some 111),.bin .add (.node []) false (.tmp 110) (.const (.int .i64 1)),(some (109,true))⟩,mg 112 11 109,⟨(some 113),.len 1 (.tmp 112),(some (109,true))⟩,⟨(some 114),.bin .lss (.node []) false (.tmp 111) (.tmp 113),(some (109,true))⟩,pf 115 109 114]
 (cd 115
 (.aV [mv 116 11,mv 117 15,ia 118 1 116 117,ld 119 118,mv 120 11,mv 121 15,bc 122 .add 121 1,ia 123 1 120 122,ld 124 123,mv 125 9,⟨(some 126),.bin .sub (.node []) false (.const (.int .i64 64)) (.tmp 125),none⟩,bi 127 .shl 124 126,bi 128 .or 119 127,ia 129 1 116 117,so 129 128] [0,0,3,7,0,0,32,112,240,0,512,2032,4095,8191,16383])
 (.skip))))))
 (.aM [bc 130 .add 97 1,mv 97 130])))
def A.kI:aq:=.seq (sr [mv 80 14,bc 81 .geq 80 0]
 (cd 81
 (.skip)
 (.exit 2)))
 (.seq (.block 3 (.aM [mv 84 13,mv 85 14,mv 86 11,mv 87 14,mv 88 14,mv 89 12,bi 90 .add 88 89,bc 91 .add 90 1,⟨(some 92),.dX 1 (.tmp 86) (some (.tmp 87)) (some (.tmp 91)) none,none⟩,mv 93 10,c2 94 274 92 93,ia 95 1 84 85,so 95 94]))
 (.aM [mv 82 14,bc 83 .sub 82 1,mv 14 83]))
def A.kJ:aq:=.seq (sr [mv 30 8,bc 31 .geq 30 0]
 (cd 31
 (.skip)
 (.exit 0)))
 (.seq (.block 1 (.aV [mv 35 6,mv 36 8,mv 37 7,mv 38 0,mv 39 8,ia 40 1 38 39,ld 41 40,mv 42 1,⟨(some 43),.aN 1 (.tmp 42) (.const (.int .i64 0)),none⟩,ld 44 43,⟨(some 45),.call (.const (.func 271 [] [])) [(.tmp 37),(.tmp 41),(.tmp 44)],none⟩,mv 34 45,xt 46 34 0,xt 47 34 1,ia 48 1 35 36,so 48 46,mv 7 47] [0,0,0,0,0,24,56,0,128,384,1020,2044,4092,4092,8191,24575,65535]))
 (.aM [mv 32 8,bc 33 .sub 32 1,mv 8 33]))
def A.b242:aq:=sr [mN 4,mN 5]
 (.seq (sr [mv 16 0,mv 17 1,c2 18 250 16 17,bc 19 .lss 18 0]
 (cd 19
 (sr [mv 20 0,mN 4,mv 5 20]
 (.ret))
 (.skip)))
 (.seq (sr [mv 21 1,ln 22 21,ei 23 22 1]
 (cd 23
 (sr [mv 24 0,ln 25 24,⟨(some 26),.bO 214 1 8 [(.int .u64 0)] (.tmp 25) (.tmp 25),none⟩,mv 6 26]
 (sr [⟨(some 7),.aY (.const (.int .u64 0)),none⟩]
 (.seq (sr [mv 27 0,ln 28 27,bc 29 .sub 28 1,mv 8 29]
 (.block 0 (.loop A.kJ)))
 (sr [mv 49 6,c1 50 263 49,mv 51 7,⟨(some 52),.aO 214 1 1 [(.int .u64 0)] [(0,1,(.tmp 51))],none⟩,c1 53 263 52,mv 4 50,mv 5 53]
 (.ret)))))
 (.skip)))
 (sr [mv 54 1,mv 55 1,ln 56 55,bc 57 .sub 56 1,ia 58 1 54 57,ld 59 58,c1 60 272 59,mv 9 60]
 (sr [mv 61 1,mv 62 9,c2 63 273 61 62,c1 64 263 63,mv 10 64]
 (sr [mv 65 0,mv 66 9,c2 67 273 65 66,mv 11 67]
 (sr [mv 68 10,ln 69 68,mv 12 69]
 (sr [mv 70 0,ln 71 70,mv 72 12,bi 73 .sub 71 72,bc 74 .add 73 1,⟨(some 75),.bO 214 1 8 [(.int .u64 0)] (.tmp 74) (.tmp 74),none⟩,mv 13 75]
 (.seq (sr [mv 76 0,ln 77 76,mv 78 12,bi 79 .sub 77 78,mv 14 79]
 (.block 2 (.loop A.kI)))
 (.seq (sr [mv 96 12,mc 97 0]
 (.block 4 (.loop A.iU)))
 (.seq (.aV [mv 131 13,c1 132 263 131,mv 133 11,mv 134 12,⟨(some 135),.dX 1 (.tmp 133) none (some (.tmp 134)) none,none⟩,c1 136 263 135,mv 4 132,mv 5 136] [0,1,0,0,12,31,63,127])
 (.ret)))))))))))
theorem A.c242:A.F 242=some ⟨137,[.tmp 4,.tmp 5],A.b242⟩:=by kernel_rfl
def A.k242:=@A.kk 242 _ _ _ A.c242 rfl
theorem Yjm{x y s:Nat}(hx:x<B)(h0:0<s)(hs:s<64):ig (al x s) (bL y (64-s))<B/\2^s*ig (al x s) (bL y (64-s))+x%2^s=x+B*(y%2^s):=by
 have hc:al x s<2^(64-s):=by
  unfold al
  apply (nC (qz s)).2
  rw[<-jH,show 64-s+s=64 by omega];exact hx
 rw[M4 (by omega) hc]
 refine⟨Zq (by omega) hc,?_⟩
 have e:bL y (64-s)=(y%2^s)*2^(64-s):=by
  unfold bL
  have:(18446744073709551616:Nat)=2^s*2^(64-s):=by rw[<-jH,show s+(64-s)=64 by omega]
  rw[this,HN]
 have e2:2^s*(y%2^s*2^(64-s))=B*(y%2^s):=by
  have:B=2^s*2^(64-s):=by rw[<-jH,show s+(64-s)=64 by omega];rfl
  rw[this]
  generalize 2^s=p
  generalize 2^(64-s)=q
  grind
 rw[e,qy,e2]
 unfold al
 have:=ri x (2^s)
 omega
structure M5 (h:T O) (N iq:Nat) (X:List Nat) (b m:Nat) (r:T V) (st:St):Prop where
 n:st.n=N+1
 w:ad N st.w=[]
 ae:ab h N st.h (N+1)
 ex:∃(rest:Nat) (Q:List Nat),m<=X.length/\r.get 8=some (.int .i64 ((m:Int)-1))/\r.get 7=some (.int .u64 rest)/\st.h.get N=some (.cells (dg Q) 214 true)/\Q.length=X.length/\Dg Q/\val B (X.drop m)=b*val B (Q.drop m)+rest/\rest<b
theorem Ygw{h:T O}{N b:Nat}{va vb:V}{X:List Nat}{r0:T V}(ha:Sl h N va (dg X))(hb:Sl h N vb (dg [b]))(dA:Dg X)(hbB:b<B)(hl:X.length<1099511627776)
  (a0:r0.get 0=some va) (a1:r0.get 1=some vb) (a6:r0.get 6=some (.slice N 0 X.length (some X.length) 1)):
  ∀k r st,(∀t,iS [(7,8),(30,48)] t=false->r.get t=r0.get t)->Fx [(7,8),(30,48)] r0 137 ⟨r,137,[]⟩->M5 h N N X b k r st->Code A.C none A.kJ ⟨r,137,[]⟩ st (Rd [(7,8),(30,48)] r0 137 (M5 h N N X b) k (fun e r st=>e=.exit 0/\M5 h N N X b 0 r st)):=by
 rintro m r ⟨H,n1,W⟩ hr hf ⟨hn,hW,hK,rest,Q,hm,h8,h7,ar,hQ,dQ,he,aD⟩
 simp only at hn hW hK ar
 subst hn
 have la:=ha.len
 have lb:=hb.len
 rw[bl]at la lb
 rw[bA]
 cases m with
 |zero=>
  simp[A.kJ,hf,h8]
  exact⟨rfl,hW,hK,rest,Q,by omega,by simp[h8],by simp[h7],ar,hQ,dQ,he,aD⟩
 |succ m=>
  have gx:=dk (l:=X) (i:=m) (by omega)
  generalize X[m]'(by omega)=x at*
  have hx:x<B:=dA.get gx
  obtain⟨i1,o1,c1,e1,w1,p1,p2,p3,p4⟩:=ha.at (eW gx)
  have p3:=(hK.get _ p2).trans p3
  obtain⟨i2,o2,c2,e2,w2,q1,q2,q3,q4⟩:=hb.at (eW (l:=[b]) (j:=0) rfl)
  have q3:=(hK.get _ q2).trans q3
  rw[re]at q4
  have gq:=dk (l:=Q) (i:=m) (by omega)
  have nc:((m+1:Nat):Int)-1=(m:Int):=by omega
  have vo:m<X.length:=by omega
  have xN:i1<N+1:=by omega
  have M6:i2<N+1:=by omega
  have zai:¬i1=N:=by omega
  have oZ:¬i2=N:=by omega
  have zaj:¬N=i1:=by omega
  have zak:¬N=i2:=by omega
  rw[nc]at h8
  have hd:=Zr (h:=H) (N:=N+1) aD hbB hx
  obtain⟨q,hq⟩:∃q,(rest*18446744073709551616+x)/b=q:=⟨_,rfl⟩
  obtain⟨rr,AD⟩:∃q,(rest*18446744073709551616+x)%b=q:=⟨_,rfl⟩
  rw[hq,AD]at hd
  have hinv:b*q+rr=rest*B+x:=by
   have:=ri (rest*18446744073709551616+x) b
   rw[hq,AD]at this
   exact this
  have xO:rr<b:=by rw[<-AD];exact jg _ (by omega)
  have Tq:q<B:=by
   rw[<-hq];apply (nC (by omega)).2
   have:=jn B (show rest+1<=b by omega)
   rw[gX B b]
   rw[iE]at this
   unfold B at*;omega
  simp[A.kJ,hr,h8,h7,la,lb,a0,a1,a6,p1,p3,p4,q1,q3,q4,vo,xN,M6]
  refine ax hd ?_
  rintro _ H n2 zj ⟨rfl,rfl,rfl⟩
  simp(disch:=first|(simp;done)|omega|(simp only[bl,bG,bh];omega)|rfl) [hf,h8,ar,nU]
  refine⟨m,by omega,rfl,by simp[ad,hW],hK.set (aS _),rr,Q.set m q,by omega,by simp,by simp,by simp,by simp[hQ],dQ.qX Tq,?_,xO⟩
  rw[zk gx,zk (lW (by omega)),List.drop_set_of_lt (by omega),he,qy,qy]
  have:B*(b*val B (Q.drop (m+1)))=b*(B*val B (Q.drop (m+1))):=by grind
  rw[gX rest]at hinv
  omega
structure M7 (N n2:Nat) (h2:T O) (iu iq Nq lu k A0:Nat) (Y:List Nat) (m:Nat) (r:T V) (st:St):Prop where
 n:st.n=Nq
 w:ad n2 st.w=[]
 ae:ab h2 n2 st.h Nq
 ex:∃(U Q:List Nat),r.get 14=some (.int .i64 ((m:Int)-1))/\st.h.get iu=some (.cells (dg U) 214 true)/\st.h.get iq=some (.cells (dg Q) 214 true)/\U.length=lu/\Q.length+(k+2)=lu/\m<=Q.length/\Dg U/\Dg Q/\(∀t,m+k+2<=t->t<lu->U[t]?=some 0)/\val B (U.drop m)<val B Y/\val B U+B^m*(val B (Q.drop m)*val B Y)=A0
theorem Ygv{h2:T O}{N n2 iu iq Nq lu k v1 A0:Nat}{Y:List Nat}{v:V}{r0:T V}{cq:Option Nat}(hv:Sl h2 n2 v (dg Y))(hY:Y.length=k+2)(dY:Dg Y)(Tr:lu<1099511627776)(f1:Y[k+1]?=some v1)(l9:0<v1)(Jt:n2<=iu)(Cg:iu<iq)(hq:iq<Nq)
  (wg:k+2<lu) (CK:r0.get 10=some v) (yu:r0.get 11=some (.slice iu 0 lu (some lu) 1)) (yv:r0.get 12=some (.int .i64 ((k:Int)+2))) (a13:r0.get 13=some (.slice iq 0 (lu-(k+2)) cq 1)):
  ∀x r st,(∀t,iS [(14,14),(80,95)] t=false->r.get t=r0.get t)->Fx [(14,14),(80,95)] r0 137 ⟨r,137,[]⟩->M7 N n2 h2 iu iq Nq lu k A0 Y x r st->Code A.C none A.kI ⟨r,137,[]⟩ st (Rd [(14,14),(80,95)] r0 137 (M7 N n2 h2 iu iq Nq lu k A0 Y) x (fun e r st=>e=.exit 2/\M7 N n2 h2 iu iq Nq lu k A0 Y 0 r st)):=by
 rintro m r ⟨H,n1,W⟩ hr hf ⟨hn,hW,hK,U,Q,mT,hU,hQ,lU,lQ,hm,dU,dQ,hz,aD,he⟩
 simp only at hn hW hK hU hQ
 subst hn
 rw[bA]
 cases m with
 |zero=>
  simp[A.kI,hf,mT]
  exact⟨rfl,hW,hK,U,Q,by simp[mT],hU,hQ,lU,lQ,hm,dU,dQ,hz,aD,he⟩
 |succ m=>
  have nc:((m+1:Nat):Int)-1=(m:Int):=by omega
  rw[nc]at mT
  have gu:=dk (l:=U) (i:=m) (by omega)
  generalize U[m]'(by omega)=um at*
  have zal:um<B:=dU.get gu
  have hsK:m_ ⟨H,n1,W⟩ 1 (some (.slice iu 0 lu (some lu) 1)) (some (some (.int .i64 m))) (some (some (.int .i64 ((m:Int)+((k:Int)+2)+1)))) (some none)=some (.slice iu m (k+3) (some (lu-m)) 1,⟨H,n1,W⟩):=by
   have e1:(0:Int)<=(m:Int)+((k:Int)+2)+1/\(m:Int)+((k:Int)+2)+1<=(lu:Int):=by omega
   have e2:((m:Int)+((k:Int)+2)+1).toNat=m+k+3:=by omega
   have e3:¬lu=m:=by omega
   have e4:m<=m+k+3:=by omega
   have e5:m+k+3-m=k+3:=by omega
   have e6:(m:Int)<=((m+k+3:Nat):Int):=by omega
   simp only[m_,oK,ay,cR,jq,Option.map,Src.ev,e1,e2,e3,e5,e6,and_self,if_true,if_false,Int.natCast_nonneg,Int.toNat_natCast,ne_eq,not_true_eq_false,Option.isSome,Option.isNone,C1,false_or,fx,rT,vQ]
  have hmq:m<lu-(k+2):=by omega
  simp(disch:=first|(simp;done)|omega|(simp only[bl,bG,bh];omega)|rfl) [A.kI,hr,mT,CK,yu,yv,a13,Jn,ay,hsK]
  refine yX (Zz2 (n2:=n2) (k:=k) (U:=U) (v1:=v1) (hv.ae ⟨aS _,fun i hi=>hK.get i hi⟩) hY dY Jt (by omega) (by omega) (by omega) hU dU f1 l9 (fun t h1 h2=>hz t (by omega) (by omega)) ?_) ?_
  ·rw[zk gu]
   have:=jo B aD
   rw[Nat.mul_succ]at this
   omega
  rintro x ⟨H2,n3,W2⟩ ⟨s1,s2,s3,q,o,rfl,s4,s5,s6,s7,s8,s9,s10,s11⟩
  simp only at s1 s2 s3 s5
  subst s1
  have Ju:H2.get iq=some (.cells (dg Q) 214 true):=by rw[s3 iq (by omega)];exact hQ
  simp(disch:=first|(simp;done)|omega|(simp only[bl,bG,bh];omega)|rfl) [hf,mT,Ju,nU]
  have sE:¬iq<n2:=by omega
  have hHe:∀i,i<n2->(H2.set iq (.cells (dg (Q.set m q)) 214 true)).get i=h2.get i:=fun i hi=>by
   rw[T.ai,au (by omega),s3 i (by omega)];exact hK.get i hi
  refine⟨m,by omega,rfl,?_,⟨by omega,hHe⟩,o,Q.set m q,by simp,by simp[s5,(show ¬iu=iq by omega)],by simp,by omega,by simp;omega,by simp;omega,s7,dQ.qX s4,?_,s11,?_⟩
  ·simp only[ad,sE,if_false]
   rw[s2];exact hW
  ·intro t h1 jT
   exact s9 t (by omega) (by omega)
  ·have eU:=Ch B U m (by omega)
   have eO:=Ch B o m (by omega)
   have et:o.take m=U.take m:=by
    apply m7
    intro t
    rw[gV,gV]
    split
    ·exact s8 t (by omega)
    ·rfl
   rw[zk (lW (by omega)),List.drop_set_of_lt (by omega),eO,et]
   rw[eU,<-s10,fL]at he
   rw[<-he]
   generalize val B (U.take m)=z1
   generalize val B (o.drop m)=z2
   generalize val B Y=z3
   generalize val B (Q.drop (m+1))=z4
   generalize B^m=z5
   grind
structure M8 (n2:Nat) (h2:T O) (iu iq Nq lu n s:Nat) (U Q:List Nat) (m:Nat) (r:T V) (st:St):Prop where
 hn:st.n=Nq
 w:ad n2 st.w=[]
 ae:ab h2 n2 st.h Nq
 q:st.h.get iq=some (.cells (dg Q) 214 true)
 ex:∃(i:Nat) (o:List Nat),i+m=n/\r.get 97=some (.int .i64 i)/\st.h.get iu=some (.cells (dg o) 214 true)/\o.length=lu/\Dg o/\(∀t,i<=t->o[t]?=U[t]?)/\2^s*val B (o.take i)=val B (U.take i)+B^i*(dz U i%2^s)
theorem Yev{h2:T O}{n2 iu iq Nq lu n s:Nat}{U Q:List Nat}{r0:T V}{cu:Option Nat}(Tr:lu<1099511627776)(lU:U.length=lu)(dU:Dg U)(hs:s<64)(Jt:n2<=iu)(Cg:iu<iq)(hq:iq<Nq)(hn:n<lu)
  (a9:r0.get 9=some (.int .i64 s)) (yu:r0.get 11=some (.slice iu 0 lu cu 1)) (Ts:r0.get 96=some (.int .i64 n)):
  ∀x r st,(∀t,iS [(15,15),(97,130)] t=false->r.get t=r0.get t)->Fx [(15,15),(97,130)] r0 137 ⟨r,137,[]⟩->M8 n2 h2 iu iq Nq lu n s U Q x r st->Code A.C none A.iU ⟨r,137,[]⟩ st (Rd [(15,15),(97,130)] r0 137 (M8 n2 h2 iu iq Nq lu n s U Q) x (fun e r st=>e=.exit 4/\M8 n2 h2 iu iq Nq lu n s U Q 0 r st)):=by
 rintro m r ⟨H,n1,W⟩ hr hf ⟨BZ,hW,hK,hQ,i,o,hi,Jv,ar,lo,dO,dW,he⟩
 simp only at BZ hW hK hQ ar
 subst BZ
 rw[bA]
 cases m with
 |zero=>
  have:i=n:=by omega
  subst this
  simp[A.iU,hr,hf,Jv,Ts]
  exact⟨rfl,hW,hK,hQ,i,o,by omega,by simp[Jv],ar,lo,dO,dW,he⟩
 |succ m=>
  have aD:i<n:=by omega
  have gx:U[i]?=some (U[i]'(by omega)):=dk (by omega)
  have gy:U[i+1]?=some (U[i+1]'(by omega)):=dk (by omega)
  generalize U[i]'(by omega)=x at*
  generalize U[i+1]'(by omega)=y at*
  have hx:x<B:=dU.get gx
  have hy:y<B:=dU.get gy
  have ox:o[i]?=some x:=by rw[dW i (aS _)];exact gx
  have oy:o[i+1]?=some y:=by rw[dW (i+1) (by omega)];exact gy
  have RG:i<lu:=by omega
  have zam:i+1<lu:=by omega
  have Tt:(i:Int)+1<(lu:Int):=by omega
  have nP:dz U i=x:=by simp[dz,gx]
  have hzy:dz U (i+1)=y:=by simp[dz,gy]
  have sE:¬iu<n2:=by omega
  have hiu:iu<n1:=by omega
  have Zs:¬iq=iu:=by omega
  have Zt:al x s<B:=YT hx
  have Zu:al x s<18446744073709551616:=Zt
  have zan:x<18446744073709551616:=hx
  have Eb:y<18446744073709551616:=hy
  have nJ:(s:Int)<=64:=by omega
  have K1:=fun v1 v2=>(hK.set (o:=v1) Jt).set (i:=iu) (o:=v2) Jt
  by_cases h0:0<s
  ·have qW:(0:Int)<(s:Int):=by omega
   obtain⟨z1,z2⟩:=Yjm (y:=y) hx h0 hs
   have ox2:(o.set i (al x s))[i]?=some (al x s):=lW (by omega)
   have oy2:(o.set i (al x s))[i+1]?=some y:=by rw[eI (by omega)];exact oy
   have sI:(o.set i (al x s)).length=lu:=by simp[lo]
   have Tu:bn .i64 (64-(s:Int))=((64-s:Nat):Int):=by rw[cj (by omega) (by omega)];omega
   simp(disch:=first|(simp;done)|omega|(simp only[bl,bG,bh];omega)|rfl) [-getElem?_pos,A.iU,hr,hf,Jv,Ts,a9,yu,aD,ar,eW ox,nU,h0,Tt,Tu,eW ox2,eW oy2,hiu]
   refine⟨m,by omega,rfl,by simp[ad,hW,sE],K1 _ _,by simp[Zs,hQ],i+1,(o.set i (al x s)).set i (ig (al x s) (bL y (64-s))),by omega,by simp,by simp,by simp[lo],(dO.qX Zt).qX z1,?_,?_⟩
   ·intro t ht
    rw[eI (by omega),eI (by omega)]
    exact dW t (by omega)
   ·rw[List.set_set,Ay,Ay,nP,hzy,show dz (o.set i (ig (al x s) (bL y (64-s)))) i=ig (al x s) (bL y (64-s)) by simp[dz,lW (show i<o.length by omega)]]
    have ht:(o.set i (ig (al x s) (bL y (64-s)))).take i=o.take i:=by
     apply m7
     intro t
     rw[gV,gV]
     split
     ·rw[eI (by omega)]
     ·rfl
    rw[ht]
    rw[nP]at he
    have e2:B^i*(2^s*ig (al x s) (bL y (64-s))+x%2^s)=B^i*(x+B*(y%2^s)):=by rw[z2]
    rw[fL]
    generalize ig (al x s) (bL y (64-s))=z at*
    generalize val B (o.take i)=y1 at*
    generalize val B (U.take i)=y2 at*
    generalize x%2^s=y3 at*
    generalize y%2^s=y4 at*
    generalize (2:Nat)^s=y5 at*
    generalize B^i=y6 at*
    clear z2 ht K1
    grind
  ·have ui:s=0:=by omega
   subst ui
   have z0:al x 0=x:=by unfold al;simp
   have Jw:o.set i x=o:=by
    apply m7
    intro t
    by_cases ht:t=i
    ·subst ht;rw[lW (by omega),ox]
    ·rw[eI (by omega)]
   simp(disch:=first|(simp;done)|omega|(simp only[bl,bG,bh];omega)|rfl) [-getElem?_pos,A.iU,hr,hf,Jv,Ts,a9,yu,aD,ar,eW ox,nU,z0,Jw]
   refine⟨m,by omega,rfl,by simp[ad,hW,sE],hK.set Jt,by simp[Zs,hQ],i+1,o,by omega,by simp,by simp,lo,dO,fun t ht=>dW t (by omega),?_⟩
   rw[Ay,Ay,nP,show dz o i=x by simp[dz,ox]]
   have:dz U i%2^0=0:=Nat.mod_one _
   rw[this]at he
   simp only[Br,Nat.one_mul,Nat.mod_one,Nat.mul_zero,re]at he ⊢
   omega
theorem Yi6(h:(aC b).length=1):aC b=[b]/\b<B:=by
 obtain⟨h1,h2⟩:=Ec (k:=0) h
 rw[Br]at h1
 rw[rT,Nat.pow_one]at h2
 refine⟨?_,h2⟩
 rw[ku (by omega),wY h2,oX,uU h2]
theorem Yeh{r:Nat}(h:r<B):qk [r]=aC r:=by
 rw[Az (by intro d hd;simp at hd;subst hd;exact h)]
 simp[val]
theorem Zv{h:T O}{u v:V}{a:Nat}(hu:Wn h N u a)(hv:Wn h N v b)(hb:0<b)(hl:(aC a).length<1000000000000)(kl:(aC b).length<1000000000000):Fn A.C 242 [u,v] h N (fun x h' n'=>∃q r,x=.aZ [q,r]/\Wn h' n' q (a/b)/\Wn h' n' r (a%b)):=by
 intro w
 have lu:=hu.len
 have lv:=hv.len
 rw[bl]at lu lv
 rw[aR,A.k242 (by simp)]
 simp[A.b242]
 refine ax (Zk hu hv (by omega) (by omega)) ?_
 rintro _ h1 n1 k1 rfl
 by_cases aD:a<b
 ·have c1:sH a b= -1:=by simp[sH,aD]
  simp[c1,aA]
  refine⟨k1,_,_,⟨rfl,rfl⟩,?_,?_⟩
  ·rw[wY aD];unfold Wn;rw[oX];exact Sl.nil
  ·rw[uU aD];exact hu.ae k1
 ·have c1:¬sH a b<0:=by
   unfold sH
   rw[au (by omega)]
   split<;>omega
  have xh:=hu.ae k1
  have l9:=hv.ae k1
  have hle:=Cd (a:=b) (b:=a) (by omega)
  by_cases h1l:(aC b).length=1
  ·obtain⟨e1,e2⟩:=Yi6 h1l
   have Jx:((aC b).length:Int)=1:=by omega
   have Ed:Sl h1 n1 v (dg [b]):=by rw[<-e1];exact l9
   simp(disch:=first|(simp;done)|omega|(simp only[bl,bG,bh];omega)|rfl) [c1,lv,h1l,lu]
   refine bQ [(7,8),(30,48)] _ (M5 h1 n1 n1 (aC a) b) (aC a).length ?_ (Ygw xh Ed (oY a) e2 (by omega) (by simp) (by simp) (by simp)) ?_
   ·refine⟨rfl,by simp,ab.refl.new _,0,List.replicate (aC a).length 0,aS _,by simp,by simp,by simp[D7],by simp,?_,?_,hb⟩
    ·intro d hd
     rw[FV]at hd
     rw[hd.2];decide
    ·simp[val]
   rintro e r ⟨H,n2,W⟩ hr ⟨rfl,hn,hW,hK,rest,Q,hm,h8,h7,ar,hQ,dQ,he,xO⟩
   simp only at hn hW hK ar
   subst hn
   simp[hr]
   refine ax (AA (l:=Q) (Sl.row (e:=214) (rw:=true) (by omega) ar (by rw[bl];exact hQ) (by simp)) (by omega)) ?_
   rintro q2 h3 n3 k3 hq
   simp[h7,ag]
   have k4:ab h3 n3 (h3.set n3 (.cells [.int .u64 rest] 214 true)) (n3+1):=ab.refl.new _
   have hs5:Sl (h3.set n3 (.cells [.int .u64 rest] 214 true)) (n3+1) (.slice n3 0 1 (some 1) 1) (dg [rest]):=Sl.row (e:=214) (rw:=true) (L:=1) (rR n3) (by simp[dg]) (by simp) (by simp)
   refine ax (AA hs5 (by simp)) ?_
   rintro r2 h5 n5 k5 ew
   simp only[yF,kv]at he
   have Ee:val B Q=a/b:=by
    rw[he,Nat.mul_add_div hb,wY xO];omega
   have Ef:rest=a%b:=by
    rw[he,Nat.mul_add_mod,uU xO]
   rw[Az dQ,Ee]at hq
   rw[Yeh (by omega),Ef]at ew
   simp[aA]
   exact⟨GR k1.le hW,((k1.trans hK).trans k3).trans (k4.trans k5),_,_,⟨rfl,rfl⟩,(hq.ae k4).ae k5,ew⟩
  ·have XF:(aC b).length≠0:=by
    rw[ku (by omega)];simp
   obtain⟨k,hk⟩:∃k,(aC b).length=k+2:=⟨(aC b).length-2,by omega⟩
   have Jx:¬(k:Int)+2=1:=by omega
   have gt:=dk (l:=aC b) (i:=k+1) (by omega)
   generalize (aC b)[k+1]'(by omega)=bt at*
   have Jy:bt<B:=(oY b).get gt
   have Tv:¬bt=0:=by
    obtain⟨w1,w2⟩:=Ec (k:=k+1) hk
    have:=(Jz w1 w2).2
    rw[gt]at this
    have e:=p_ this
    have hp:0<B^(k+1):=wW (by decide)
    have:=(FR hp).2 (by rw[Nat.one_mul];exact w1)
    omega
   obtain⟨m1,m2,m3⟩:=Zw Tv Jy
   have Y4:=fun (h:T O) (N:Nat)=>Zp (h:=h) (N:=N) (x:=bt) Jy
   generalize hs:64-ba bt=s at*
   obtain⟨i1,o1,cc1,e1,w1,p1,p2,p3,p4⟩:=l9.at (eW gt)
   have t1:((k:Int)+2-1)=(k:Int)+1:=by omega
   rw[hk]at lv
   simp(disch:=omega) [c1,lv,p1,p3,p4,t1,Jx]
   refine ax (Y4 _ _) ?_
   rintro _ h1 n1 k2 ⟨rfl,rfl,rfl⟩
   simp
   refine ax (Zx l9 (oY b) m3 (by omega)) ?_
   rintro vv h2 n2 k3 ⟨iv,ov,g1,g2,rfl,g3,g4,g5,g6⟩
   simp
   refine ax (AA (l:=ov) (Sl.row (e:=214) (rw:=true) g2 g3 (by rw[bl];exact g4) (by simp)) (by omega)) ?_
   rintro vy h3 n3 k4 hy
   rw[Az g5,g6,kv]at hy
   obtain⟨y1,v1,y2,y3⟩:=Yd9 hk gt m1 m2 (by omega)
   have ly:=Sl.len hy
   rw[bl,y1]at ly
   have ly:ki vy=some (k+2):=ly
   obtain⟨L,hL⟩:∃L,L+(k+2)=(aC a).length+1:=⟨(aC a).length+1-(k+2),by omega⟩
   have hLi:((aC a).length:Int)-((k:Int)+2)=(L:Int)-1:=by omega
   simp[]
   refine ax (Zx ((xh.ae k3).ae k4) (oY a) m3 (by omega)) ?_
   rintro uu h4 n4 k5 ⟨iu,ou,j1,j2,rfl,j3,j4,j5,j6⟩
   simp(disch:=first|(simp;done)|omega|(simp only[bl,bG,bh];omega)|rfl) [ly,lu,hLi,D7]
   have zl:0<v1:=by omega
   have k6:ab h4 n4 (h4.set n4 (.cells (dg (List.replicate L 0)) 214 true)) (n4+1):=ab.refl.new _
   have hyv:v1*B^(k+1)<=val B (aC (b*2^s)):=by
    obtain⟨w1,w2⟩:=Ec (k:=k+1) y1
    have:=(Jz w1 w2).2
    rw[y2]at this
    have e:=p_ this
    rw[kv,e]
    exact Nat.div_mul_le_self _ _
   refine bQ [(14,14),(80,95)] _ (M7 N n3 h3 iu n4 (n4+1) ((aC a).length+1) k (a*2^s) (aC (b*2^s))) L ?_ (Ygv (cq:=some L) (v1:=v1) hy (by omega) (oY _) (by omega) (by rw[y2]) zl j1 j2 (rR n4) (by omega) (by simp) (by simp) (by simp) ?_) ?_
   ·have bJ:¬iu=n4:=by omega
    refine⟨rfl,rfl,(k5.trans k6),ou,List.replicate L 0,by simp,by simp[bJ,j3],by simp,j4,by simp;omega,by simp,j5,?_,fun t Tw wm=>by omega,?_,?_⟩
    ·intro d hd
     rw[FV]at hd
     rw[hd.2];decide
    ·have Ty:a≠0:=by omega
     have Zy:(aC a).length≠0:=by rw[ku Ty];simp
     obtain⟨la1,JA⟩:∃x,(aC a).length=x+1:=⟨(aC a).length-1,by omega⟩
     have gT:=(Ec JA).2
     rw[<-JA]at gT
     rw[kv]at j6
     exact Zzx (k:=k+1) j6 j4 (by omega) (by omega) gT m3 y3 hyv
    ·simp[val,j6,kv]
   ·have:(aC a).length+1-(k+2)=L:=by omega
    simp[this]
   rintro e r ⟨H,n5,W⟩ hr ⟨rfl,hn,hW,hK,U,Q,mT,hU,hQ,lU,lQ,hm,dU,dQ,hz,dr,he⟩
   simp only at hn hW hK hU hQ
   subst hn
   simp only[yF,Br,Nat.one_mul]at he dr
   simp[hr]
   refine bQ [(15,15),(97,130)] _ (M8 n3 h3 iu n4 (n4+1) ((aC a).length+1) (k+2) s U Q) (k+2) ?_ (Yev (cu:=some ((aC a).length+1)) (by omega) lU dU m3 j1 j2 (rR n4) (by omega) (by simp[hr]) (by simp[hr]) (by simp)) ?_
   ·refine⟨rfl,hW,hK,hQ,0,U,by omega,by simp,hU,lU,dU,fun _ _=>rfl,?_⟩
    obtain⟨x,hx⟩:∃x,val B U=2^s*x:=by
     refine⟨a-val B Q*b,?_⟩
     rw[kv]at he
     rw[Nat.mul_sub,gX _ a,<-he]
     have:val B Q*(b*2^s)=2^s*(val B Q*b):=by grind
     omega
    have rp:dz U 0%2^s=0:=by
     have h1:=Ay (b:=B) (l:=U) (k:=0)
     have h2:=Ch B U 1 (by omega)
     simp only[List.take_zero,val,Br,Nat.one_mul,rT,Nat.pow_one]at h1 h2
     rw[h1,hx]at h2
     have h3:B=2^s*2^(64-s):=by rw[<-jH,show s+(64-s)=64 by omega];rfl
     rw[h3,Bq]at h2
     have h4:dz U 0=2^s*(x-2^(64-s)*val (2^s*2^(64-s)) (U.drop 1)):=by rw[Nat.mul_sub];omega
     rw[h4,Nat.mul_mod_right]
    rw[rp];simp[val]
   rintro e r2 ⟨H2,n5,W2⟩ ew ⟨rfl,ft,eE,fu,Zz,i,o,hi,Jv,ar,lo,dO,dW,sA⟩
   simp only at ft eE fu Zz ar
   subst ft
   have:i=k+2:=by omega
   subst this
   simp[ew,hr]
   refine ax (AA (l:=Q) (Sl.row (e:=214) (rw:=true) (rR n4) Zz (by rw[bl];omega) (by simp)) (by omega)) ?_
   rintro q2 h6 n6 k6 hq
   have Tz:Sl h6 n6 (.slice iu 0 ((aC a).length+1) (some ((aC a).length+1)) 1) (dg o):=(Sl.row (h:=H2) (N:=n4+1) (by omega) ar (by rw[bl];exact lo) (by simp)).ae k6
   obtain⟨v',e1,e2⟩:=MY (w:=[]) Tz (lo:=0) (hi:=k+2) (tQ _) (by rw[bl];omega) none (some (.int .i64 ((k+2:Nat):Int))) (.inr ⟨rfl,rfl⟩) (.inl rfl)
   rw[show ((k+2:Nat):Int)=(k:Int)+2 by omega]at e1
   simp[ew,hr,Jn,ay,e1]
   rw[yF,show (dg o).take (k+2)=dg (o.take (k+2)) by simp[dg]]at e2
   refine ax (AA (l:=o.take (k+2)) e2 (by rw[fR];omega)) ?_
   rintro r3 h7 n7 k7 uz
   rw[Az dQ]at hq
   rw[Az (fun d hd=>dO d (rQ hd))]at uz
   rw[kv]at he dr
   have hbs:0<b*2^s:=yH hb (qz s)
   have Eg:dz U (k+2)=0:=by simp[dz,hz (k+2) (by omega) (by omega)]
   have hUt:val B (U.take (k+2))=val B U:=by
    have h1:=Ch B U (k+2) (by omega)
    rw[TA (fun t t1 t2=>hz t (by omega) (by omega))]at h1
    omega
   have Ee:val B Q=a/b:=by
    have h1:a*2^s/(b*2^s)=val B Q:=by
     rw[<-he,Nat.add_mul_div_right _ _ hbs,wY dr];omega
    rw[LK _ _ (qz s)]at h1
    exact h1.symm
   have Ef:val B (o.take (k+2))=a%b:=by
    have h1:a*2^s%(b*2^s)=val B U:=by
     rw[<-he,Nat.add_mul_mod_self_right,uU dr]
    rw[HN,gX]at h1
    rw[Eg,Nat.zero_mod,Nat.mul_zero,re,hUt,<-h1]at sA
    exact Nat.eq_of_mul_eq_mul_left (qz s) sA
   rw[Ee]at hq
   rw[Ef]at uz
   simp[dw.dB,aA]
   have kk:=(k1.trans k3).trans k4
   exact⟨GR kk.le eE,((kk.trans fu).trans k6).trans k7,q2,r3,⟨rfl,rfl⟩,Sl.ae hq k7,uz⟩
variable {N n:Nat} {h:T O} {x:V} {z:Int}
def A.b190:aq:=sr [⟨(some 2),.alloc [(.int .i64 0),.aa] 112,none⟩]
 (sr [mv 3 0,⟨(some 4),.build [(.int .i64 0),.aa] [(0,1,(.tmp 3))],none⟩,⟨none,.store 2 (.tmp 2) (.tmp 4),none⟩]
 (.ret))
theorem A.c190:A.F 190=some ⟨5,[.cell 2 (some 2)],A.b190⟩:=by kernel_rfl
def A.k190:=@A.kk 190 _ _ _ A.c190 rfl
def A.b199:aq:=sr [bx 1 112 0,mc 2 0]
 (sr [fa 3 0 1,ld 4 3,⟨(some 5),.mn [(.const (.int .i64 1)),(.tmp 4)],none⟩,⟨(some 6),.mx [(.const (.int .i64 (-1))),(.tmp 5)],none⟩,mv 2 6]
 (.ret))
theorem A.c199:A.F 199=some ⟨7,[.tmp 2],A.b199⟩:=by kernel_rfl
def A.k199:=@A.kk 199 _ _ _ A.c199 rfl
def A.b259:aq:=sr [bx 1 112 0,⟨(some 2),.alloc [(.int .i64 0),.aa] 112,none⟩]
 (.seq (sr [fa 3 0 1,ld 4 3,bc 5 .lss 4 0]
 (cd 5
 (sr [lN 6 2 1,c1 7 218 6,⟨none,.store 2 (.tmp 2) (.tmp 7),none⟩]
 (.ret))
 (.skip)))
 (sr [lN 8 2 1,⟨none,.store 2 (.tmp 2) (.tmp 8),none⟩]
 (.ret)))
theorem A.c259:A.F 259=some ⟨9,[.cell 2 (some 2)],A.b259⟩:=by kernel_rfl
def A.k259:=@A.kk 259 _ _ _ A.c259 rfl
def A.b221:aq:=sr [⟨(some 2),.aY (.const (.int .u64 0)),none⟩]
 (.seq (sr [mv 3 0,bc 4 .lss 3 0]
 (cd 4
 (sr [mv 5 0,⟨(some 6),.un .neg (.tmp 5),none⟩,⟨(some 7),.bb .u64 (.tmp 6),none⟩,mv 2 7]
 (.ret))
 (.skip)))
 (sr [mv 8 0,⟨(some 9),.bb .u64 (.tmp 8),none⟩,mv 2 9]
 (.ret)))
theorem A.c221:A.F 221=some ⟨10,[.tmp 2],A.b221⟩:=by kernel_rfl
def A.k221:=@A.kk 221 _ _ _ A.c221 rfl
def A.b218:aq:=sr [bx 1 112 0,⟨(some 2),.alloc [(.int .i64 0),.aa] 112,none⟩]
 (.seq (sr [fa 5 1 1,ld 6 5,⟨(some 7),.bin .eql (.aI .slice) true (.tmp 6) (.const .aa),none⟩,mv 8 7,⟨(some 9),.de 0 (.tmp 1),(some (8,true))⟩,⟨(some 10),.load none (.tmp 9),(some (8,true))⟩,⟨(some 11),.bin .neq (.aI .int) true (.tmp 10) (.const (.int .i64 (-9223372036854775808))),(some (8,true))⟩,pf 12 8 11]
 (cd 12
 (sr [fa 13 0 1,ld 14 13,⟨(some 15),.un .neg (.tmp 14),none⟩,⟨(some 16),.build [(.int .i64 0),.aa] [(0,1,(.tmp 15))],none⟩,⟨none,.store 2 (.tmp 2) (.tmp 16),none⟩]
 (.ret))
 (.skip)))
 (sr [lN 18 2 1,c1 19 222 18,mv 17 19,xt 20 17 0,xt 21 17 1,mv 3 20,mv 4 21]
 (sr [mv 22 3,⟨(some 23),.un .not (.tmp 22),none⟩,mv 24 4,c2 25 223 23 24,⟨none,.store 2 (.tmp 2) (.tmp 25),none⟩]
 (.ret))))
theorem A.c218:A.F 218=some ⟨26,[.cell 2 (some 2)],A.b218⟩:=by kernel_rfl
def A.k218:=@A.kk 218 _ _ _ A.c218 rfl
def A.b222:aq:=sr [bx 1 112 0,⟨(some 2),.aY (.const (.bool false)),none⟩,mN 3]
 (.seq (.block 0 (sr [fa 5 1 1,ld 6 5,⟨(some 7),.bin .neq (.aI .slice) true (.tmp 6) (.const .aa),none⟩,mv 4 7]
 (cd 4
 (.seq (.aV [fa 8 0 1,ld 9 8,bc 10 .lss 9 0,fa 11 1 1,ld 12 11,mv 2 10,mv 3 12] [0,1,3,0,8,7,63])
 (.ret))
 (sr [fa 14 0 1,ld 15 14,ei 16 15 0,mv 13 16]
 (cd 13
 (sr [⟨(some 2),.aY (.const (.bool false)),none⟩,mN 3]
 (.ret))
 (.skip))))))
 (.seq (.aV [fa 17 0 1,ld 18 17,bc 19 .lss 18 0,fa 20 0 1,ld 21 20,c1 22 221 21,⟨(some 23),.aO 214 1 1 [(.int .u64 0)] [(0,1,(.tmp 22))],none⟩,mv 2 19,mv 3 23] [0,1,3,0,8,24,56,63,255])
 (.ret)))
theorem A.c222:A.F 222=some ⟨24,[.tmp 2,.tmp 3],A.b222⟩:=by kernel_rfl
def A.k222:=@A.kk 222 _ _ _ A.c222 rfl
def A.b223:aq:=sr [⟨(some 4),.alloc [(.int .i64 0),.aa] 112,none⟩]
 (.seq (.block 0 (sr [mv 6 1,ln 7 6,ei 8 7 0,mv 5 8]
 (cd 5
 (sr [⟨(some 9),.build [(.int .i64 0),.aa] [],none⟩,⟨none,.store 2 (.tmp 4) (.tmp 9),none⟩]
 (.ret))
 (sr [mv 11 1,ln 12 11,ei 13 12 1,mv 14 13,mg 15 1 14,⟨(some 16),.aN 1 (.tmp 15) (.const (.int .i64 0)),(some (14,true))⟩,⟨(some 17),.load none (.tmp 16),(some (14,true))⟩,⟨(some 18),.bin .leq (.node []) false (.tmp 17) (.const (.int .u64 9223372036854775807)),(some (14,true))⟩,pf 19 14 18,mv 20 19,mg 21 0 20,pf 22 20 21,mv 10 22]
 (cd 10
 (sr [mv 23 1,⟨(some 24),.aN 1 (.tmp 23) (.const (.int .i64 0)),none⟩,ld 25 24,⟨(some 26),.bb .i64 (.tmp 25),none⟩,⟨(some 27),.un .neg (.tmp 26),none⟩,⟨(some 28),.build [(.int .i64 0),.aa] [(0,1,(.tmp 27))],none⟩,⟨none,.store 2 (.tmp 4) (.tmp 28),none⟩]
 (.ret))
 (sr [mv 30 1,ln 31 30,ei 32 31 1,mv 33 32,mg 34 1 33,⟨(some 35),.aN 1 (.tmp 34) (.const (.int .i64 0)),(some (33,true))⟩,⟨(some 36),.load none (.tmp 35),(some (33,true))⟩,⟨(some 37),.bin .leq (.node []) false (.tmp 36) (.const (.int .u64 9223372036854775807)),(some (33,true))⟩,pf 38 33 37,mv 29 38]
 (cd 29
 (sr [mv 39 1,⟨(some 40),.aN 1 (.tmp 39) (.const (.int .i64 0)),none⟩,ld 41 40,⟨(some 42),.bb .i64 (.tmp 41),none⟩,⟨(some 43),.build [(.int .i64 0),.aa] [(0,1,(.tmp 42))],none⟩,⟨none,.store 2 (.tmp 4) (.tmp 43),none⟩]
 (.ret))
 (sr [mv 45 0,mv 44 45]
 (cd 44
 (sr [mv 46 1,⟨(some 47),.build [(.int .i64 0),.aa] [(0,1,(.const (.int .i64 (-1)))),(1,1,(.tmp 46))],none⟩,⟨none,.store 2 (.tmp 4) (.tmp 47),none⟩]
 (.ret))
 (.skip))))))))))
 (sr [mv 48 1,⟨(some 49),.build [(.int .i64 0),.aa] [(0,1,(.const (.int .i64 1))),(1,1,(.tmp 48))],none⟩,⟨none,.store 2 (.tmp 4) (.tmp 49),none⟩]
 (.ret)))
theorem A.c223:A.F 223=some ⟨50,[.cell 4 (some 2)],A.b223⟩:=by kernel_rfl
def A.k223:=@A.kk 223 _ _ _ A.c223 rfl
def vt(z:Int):Int:=if z<0 then -1 else 1
def In(h:T O)(N:Nat)(x:V)(z:Int):Prop:=
 (x=.agg [.int .i64 z,.aa]/\ -9223372036854775808<=z/\z<9223372036854775808)\/
 ∃i o l c,x=.agg [.int .i64 (vt z),.slice i o l c 1]/\Wn h N (.slice i o l c 1) z.natAbs/\9223372036854775808<=z.natAbs
theorem In.ae{h':T O}{N':Nat}(s:In h N x z)(k:ab h N h' N'):In h' N' x z:=by
 rcases s with s|⟨i,o,l,c,s1,s2,s3⟩
 ·exact .inl s
 ·exact .inr ⟨i,o,l,c,s1,s2.ae k,s3⟩
theorem In.small(h1: -9223372036854775808<=z)(h2:z<9223372036854775808):In h N (.agg [.int .i64 z,.aa]) z:=.inl ⟨rfl,h1,h2⟩
theorem In.cells(s:In h N x z):∃n u,x=.agg [.int .i64 n,u]/\V.one u=true:=by
 rcases s with⟨rfl,_⟩|⟨i,o,l,c,rfl,_⟩
 ·exact⟨_,_,rfl,rfl⟩
 ·exact⟨_,_,rfl,rfl⟩
theorem In.nu{n:Int}{u:V}(s:In h N (.agg [.int .i64 n,u]) z):∀x∈[V.int .i64 n,u],∀m,x≠.int .u64 m:=by
 intro x hx m hc
 simp only[kb,List.not_mem_nil,or_false]at hx
 rcases hx with rfl|rfl
 ·cases hc
 ·subst hc
  rcases s with⟨e,_⟩|⟨_,_,_,_,e,_⟩
  ·simp at e
  ·simp at e
theorem aL{h1:T O}{n1:Nat}(k:ab h n h1 n1)(o:O):ab h n (h1.set n1 o) (n1+1):=(k.set k.le).up (uW _)
def wl(z:Int):Nat:=(aC z.natAbs).length
theorem Eh:Fn A.C 190 [.int .i64 z] h N (fun v _ _=>v=.agg [.int .i64 z,.aa]):=by
 intro w
 rw[aR,A.k190 (by simp)]
 simp[A.b190,aU,aJ,ag,aA]
 exact(((ab.refl.set (aS N)).set (aS N)).up (uW N))
def fM(z:Int):Int:=if z<0 then -1 else if z=0 then 0 else 1
theorem GS(hx:In h N x z):Fn A.C 199 [x] h N (fun v _ _=>v=.int .i64 (fM z)):=by
 intro w
 rw[aR,A.k199 (by simp)]
 rcases hx with⟨rfl,_⟩|⟨i,o,l,c,rfl,_,hz⟩
 ·obtain h1|h1|h1:z<0\/z=0\/0<z:=by omega
  ·have e1:z<1:=by omega
   have e2:¬ -1<z:=by omega
   simp[A.b199,aU,aA,vU,oL,zK,uX,yL,vS,h1,e1,e2,fM]
   exact aL ab.refl _
  ·subst h1
   simp[A.b199,aU,aA,vU,oL,zK,uX,yL,vS,fM]
   exact aL ab.refl _
  ·have e1:¬z<1:=by omega
   have e2:¬z<0:=by omega
   have e3:¬z=0:=by omega
   simp[A.b199,aU,aA,vU,oL,zK,uX,yL,vS,e1,e2,e3,fM]
   exact aL ab.refl _
 ·by_cases h1:z<0
  ·simp[A.b199,aU,aA,vU,oL,zK,uX,yL,vS,vt,fM,h1]
   exact aL ab.refl _
  ·have e3:¬z=0:=by omega
   simp[A.b199,aU,aA,vU,oL,zK,uX,yL,vS,vt,fM,h1,e3]
   exact aL ab.refl _
theorem TC(hz: -9223372036854775808<=z)(hm:z<9223372036854775808){st:St}:A.C.call (.func 221 [] []) [.int .i64 z] st=some (.int .u64 (z.natAbs:Nat),st):=by
 apply Call.eq
 rw[aR,A.k221 (by simp)]
 by_cases e1:z<0
 ·have e2:bn .u64 (IntKind.wrap .i64 (0-z))=(z.natAbs:Nat):=by
   rw[GN]
   by_cases e3:z= -9223372036854775808
   ·subst e3;decide
   ·rw[HU (by omega) (by omega)];omega
  rw[Int.zero_sub]at e2
  simp[A.b221,e1,e2]
 ·have e2:bn .u64 z=(z.natAbs:Nat):=by rw[B8 (by omega) (by omega)];omega
  simp[A.b221,e1,e2]
theorem Ei(h:n<B)(h0:n≠0):aC n=[n]:=by
 rw[ku h0,wY h,oX,uU h]
theorem AE(hx:In h N x z):Fn A.C 222 [x] h N (fun v h' n'=>∃u,v=.aZ [.bool (decide (z<0)),u]/\Wn h' n' u z.natAbs):=by
 intro w
 rw[aR,A.k222 (by simp)]
 rcases hx with⟨rfl,h1,h2⟩|⟨i,o,l,c,rfl,hw,hz⟩
 ·by_cases h0:z=0
  ·subst h0
   simp[A.b222,aU,dJ,aA]
   refine⟨aL ab.refl _,?_⟩
   unfold Wn;rw[oX];exact Sl.nil
  ·have hs:=fun st=>TC h1 h2 (st:=st)
   have d1:¬N=N+1:=by omega
   simp[A.b222,aU,ag,dJ,h0,hs,aA,dw.dB]
   refine⟨aL (aL ab.refl _) _,?_⟩
   unfold Wn
   rw[Ei (by unfold B;omega) (by omega)]
   exact Sl.row (e:=214) (rw:=true) (L:=1) (by omega) (by simp[dg]) (by simp) (by simp)
 ·have e1:(vt z<0)=(z<0):=by unfold vt;split<;>simp_all
  simp[A.b222,aU,dJ,aA,e1,dw.dB]
  refine⟨aL ab.refl _,hw.ae (aL ab.refl _)⟩
theorem Ci{u:V}{b:Bool}(hu:Wn h N u n)(hl:(aC n).length<1099511627776):Fn A.C 223 [.bool b,u] h N (fun v h' n'=>In h' n' v (if b=true then -(n:Int) else n)):=by
 intro w
 have lu:=hu.len
 rw[bl]at lu
 rw[aR,A.k223 (by simp)]
 have kk:∀o1 o2:O,ab h N ((h.set N o1).set N o2) (N+1):=fun o1 o2=>(aL ab.refl o1).set (aS N)
 by_cases h0:n=0
 ·subst h0
  rw[oX]at lu
  simp[A.b223,lu,aU,aJ,ag,aA]
  refine⟨kk _ _,?_⟩
  have:(if b=true then -((0:Nat):Int) else ((0:Nat):Int))=0:=by split<;>rfl
  exact In.small (by omega) (by omega)
 ·by_cases h1:n<18446744073709551616
  ·rw[Ei h1 h0]at lu
   obtain⟨i,o,c,e,rw,p1,p2,p3,p4⟩:=hu.at (eW (l:=aC n) (j:=0) (n:=n) (by rw[Ei h1 h0];rfl))
   rw[re]at p4
   have lu:ki u=some 1:=lu
   have bJ:¬i=N:=by omega
   by_cases h2:n<=9223372036854775807
   ·have jT:(n:Int)<=9223372036854775807:=by omega
    have w1:bn .i64 (n:Int)=n:=cj (by omega) (by omega)
    have w2:IntKind.wrap .i64 (-(n:Int))= -(n:Int):=HU (by omega) (by omega)
    cases b
    ·simp[A.b223,lu,p1,p3,p4,bJ,jT,w1,aU,aJ,ag,aA]
     exact⟨kk _ _,In.small (by omega) (by omega)⟩
    ·simp[A.b223,lu,p1,p3,p4,bJ,jT,w1,w2,aU,aJ,ag,aA]
     exact⟨kk _ _,In.small (by omega) (by omega)⟩
   ·have jT:¬(n:Int)<=9223372036854775807:=by omega
    obtain⟨i2,o2,l2,c2,rfl⟩:∃i o l c,u=.slice i o l c 1:=by
     rcases hu with⟨hu,_⟩|⟨i,o,cp,c,e,rw,hu,_⟩
     ·rw[Ei h1 h0]at hu;simp[dg]at hu
     ·exact⟨_,_,_,_,hu⟩
    cases b
    ·simp[A.b223,lu,p1,p3,p4,bJ,jT,aU,aJ,ag,aA]
     refine⟨kk _ _,.inr ⟨i2,o2,l2,c2,?_,hu.ae (kk _ _),?_⟩⟩
     ·simp[vt]
     ·omega
    ·simp[A.b223,lu,p1,p3,p4,bJ,jT,aU,aJ,ag,aA]
     refine⟨kk _ _,.inr ⟨i2,o2,l2,c2,?_,?_,?_⟩⟩
     ·simp[vt];omega
     ·simpa using hu.ae (kk _ _)
     ·omega
  ·have DK:2<=(aC n).length:=by
    rw[ku h0,ku (by unfold B;omega)];simp
   have c0:¬((aC n).length:Int)=0:=by omega
   have c1:¬((aC n).length:Int)=1:=by omega
   have c2:¬(aC n).length=1:=by omega
   have c3:¬aC n=[]:=by intro h;rw[h]at DK;simp at DK
   rcases hu with⟨hu,_⟩|⟨i,o,cp,c,e,rw,rfl,hu⟩
   ·exfalso
    have:=congrArg List.length hu
    rw[bl]at this
    simp at this
    exact c3 this
   have hw:Wn h N (.slice i o (dg (aC n)).length cp 1) n:=.inr ⟨i,o,cp,c,e,rw,rfl,hu⟩
   rw[bl]at hw
   cases b
   ·simp[A.b223,c1,c3,aU,aJ,ag,aA]
    refine⟨kk _ _,.inr ⟨i,o,(aC n).length,cp,?_,hw.ae (kk _ _),?_⟩⟩
    ·simp[vt]
    ·omega
   ·simp[A.b223,c1,c3,aU,aJ,ag,aA]
    refine⟨kk _ _,.inr ⟨i,o,(aC n).length,cp,?_,?_,?_⟩⟩
    ·simp[vt];omega
    ·simpa using hw.ae (kk _ _)
    ·omega
theorem Sl.aE{v:V}{l:List Nat}{i:Nat}{c0 c1:List V}{e0 e1:TypeId}{w0 w1:Bool}(s:Sl h N v (dg l))(hr:h.get i=some (.cells c0 e0 w0))(hn:∀x∈c0,∀n,x≠.int .u64 n)(hc:c1.length=c0.length):Sl (h.set i (.cells c1 e1 w1)) N v (dg l):=by
 rcases s with s|⟨i',o,cp,c,e,rw,rfl,q1,q2,q3,q4,q5⟩
 ·exact .inl s
 ·by_cases hi:i'=i
  ·subst hi
   rw[hr]at q2
   simp only[aj,O.cells.injEq]at q2
   obtain⟨rfl,rfl,rfl⟩:=q2
   cases l with
   |nil=>
    refine .inr ⟨i',o,cp,c1,e1,w1,rfl,q1,by rw[T.ai,aF rfl],?_,by simpa[hc]using q4,q5⟩
    intro j hj
    simp[dg]at hj
   |cons d l=>
    exfalso
    have:=q3 0 (by simp[dg])
    have hm:=du (l:=c0) (i:=o+0) (a:=.int .u64 d) (by rw[this];simp[dg])
    exact hn _ hm _ rfl
  ·exact .inr ⟨i',o,cp,c,e,rw,rfl,q1,by rw[T.ai,au hi];exact q2,q3,q4,q5⟩
theorem In.aE{i:Nat}{c0 c1:List V}{e0 e1:TypeId}{w0 w1:Bool}(s:In h N x z)(hr:h.get i=some (.cells c0 e0 w0))(hn:∀x∈c0,∀n,x≠.int .u64 n)(hc:c1.length=c0.length):In (h.set i (.cells c1 e1 w1)) N x z:=by
 rcases s with s|⟨i',o,l,c,s1,s2,s3⟩
 ·exact .inl s
 ·exact .inr ⟨i',o,l,c,s1,Sl.aE s2 hr hn hc,s3⟩
theorem GU(hx:In h N x z)(hl:wl z<500000000000):Fn A.C 218 [x] h N (fun v h' n'=>In h' n' v (-z)):=by
 intro w
 rw[aR,A.k218 (by simp)]
 have rest:∀{x:V},In h N x z->∀(h1:T O) (N1:Nat),ab h N h1 N1->Fn A.C 222 [x] h1 N1 (fun v h' n'=>∃u,v=.aZ [.bool (decide (z<0)),u]/\Wn h' n' u z.natAbs):=fun hx h1 N1 k=>AE (hx.ae k)
 have fin:∀{v h' n'},In h' n' v (if (!decide (z<0))=true then -(z.natAbs:Int) else z.natAbs)->In h' n' v (-z):=fun {v h' n'} q=>by
  have e:(if (!decide (z<0))=true then -(z.natAbs:Int) else (z.natAbs:Int))= -z:=by
   by_cases h:z<0<;>simp[h]<;>omega
  rw[e]at q;exact q
 by_cases hz:x=.agg [.int .i64 z,.aa]/\z≠ -9223372036854775808/\ -9223372036854775808<=z/\z<9223372036854775808
 ·obtain⟨rfl,h0,h1,h2⟩:=hz
  have w2:IntKind.wrap .i64 (-z)= -z:=HU (by omega) (by omega)
  simp[A.b218,aU,aJ,ag,dJ,h0,w2,aA]
  exact⟨(aL (aL ab.refl _) _).set (by omega),In.small (by omega) (by omega)⟩
 ·rcases id hx with⟨rfl,h1,h2⟩|⟨i,o,l,c,rfl,_⟩
  ·have h0:z= -9223372036854775808:=by
    apply Decidable.byContradiction
    intro hc
    exact hz ⟨rfl,hc,h1,h2⟩
   have hp:=rest hx _ _ (aL (aL ab.refl (.cells [.int .i64 z,.aa] 112 true)) (.cells [.int .i64 0,.aa] 112 true))
   subst h0
   simp[A.b218,aU,aJ,dJ]
   refine ax hp ?_
   rintro _ h3 n3 k3 ⟨u,rfl,hu⟩
   have uA:=k3.le
   have g0:=k3.get (N+1) (by omega)
   simp at g0
   simp[]
   refine ax (Ci hu (by unfold wl at hl;omega)) ?_
   rintro v h4 n4 k4 hv
   have qY:=k4.le
   have g1:=(k4.get (N+1) (by omega)).trans g0
   obtain⟨n5,u5,rfl,iC⟩:=hv.cells
   unfold V.one at iC
   simp[g1,aU,aJ,ag,bW,aA,iC]
   have kk:=(((aL (aL ab.refl _) _).trans k3).trans k4).set (h:=h) (n:=N) (i:=N+1) (o:=.cells [.int .i64 n5,u5] 112 true) (by omega)
   exact⟨kk,(fin hv).aE g1 (by simp) rfl⟩
  ·have hp:=rest hx _ _ (aL (aL ab.refl (.cells [.int .i64 (vt z),.slice i o l c 1] 112 true)) (.cells [.int .i64 0,.aa] 112 true))
   simp[A.b218,aU,aJ,dJ]
   refine ax hp ?_
   rintro _ h3 n3 k3 ⟨u,rfl,hu⟩
   have uA:=k3.le
   have g0:=k3.get (N+1) (by omega)
   simp at g0
   simp[]
   refine ax (Ci hu (by unfold wl at hl;omega)) ?_
   rintro v h4 n4 k4 hv
   have qY:=k4.le
   have g1:=(k4.get (N+1) (by omega)).trans g0
   obtain⟨n5,u5,rfl,iC⟩:=hv.cells
   unfold V.one at iC
   simp[g1,aU,aJ,ag,bW,aA,iC]
   have kk:=(((aL (aL ab.refl _) _).trans k3).trans k4).set (h:=h) (n:=N) (i:=N+1) (o:=.cells [.int .i64 n5,u5] 112 true) (by omega)
   exact⟨kk,(fin hv).aE g1 (by simp) rfl⟩
end Go.Mx
