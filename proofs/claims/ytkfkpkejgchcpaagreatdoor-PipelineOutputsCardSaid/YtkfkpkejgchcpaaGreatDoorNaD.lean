/-num-/
import Derived.Test.YtkfkpkejgchcpaaGreatDoorNaG
set_option linter.all false
namespace Go.Mx
open Go Go.Proofs
variable {N b:Nat}
set_option maxHeartbeats 8000000
set_option maxRecDepth 1000000
def A.lb191_0:Zah:=sr [bi 98 .lss 97 96]
 (.seq (cd 98
 (.skip)
 (.exit 4))
 (.seq (.block 5 (sr [mv 99 97,mv 15 99]
 (sr [mv 100 11,mv 101 15,ia 102 1 100 101,ld 103 102,mv 104 9,bi 105 .shr 103 104,ia 106 1 100 101,so 106 105]
 (sr [mv 107 9,bc 108 .gtr 107 0,mv 109 108,mg 110 15 109,gy 111 109 (.bin .add (.node []) false (tq 110) (kq 1)),mg 112 11 109,gy 113 109 (.len 1 (tq 112)),gy 114 109 (.bin .lss (.node []) false (tq 111) (tq 113)),pf 115 109 114]
 (cd 115
 (.regD [mv 116 11,mv 117 15,ia 118 1 116 117,ld 119 118,mv 120 11,mv 121 15,bc 122 .add 121 1,ia 123 1 120 122,ld 124 123,mv 125 9,ge 126 (.bin .sub (.node []) false (kq 64) (tq 125)),bi 127 .shl 124 126,bi 128 .or 119 127,ia 129 1 116 117,so 129 128] [0,0,3,7,0,0,32,112,240,0,512,2032,4095,8191,16383])
 (.skip))))))
 (.reg [bc 130 .add 97 1,mv 97 130])))
def A.lb191_1:Zah:=.seq (sr [mv 80 14,bc 81 .geq 80 0]
 (cd 81
 (.skip)
 (.exit 2)))
 (.seq (.block 3 (.reg [mv 84 13,mv 85 14,mv 86 11,mv 87 14,mv 88 14,mv 89 12,bi 90 .add 88 89,bc 91 .add 90 1,ge 92 (.sliceSl 1 (tq 86) (some (tq 87)) (some (tq 91)) none),mv 93 10,c2 94 241 92 93,ia 95 1 84 85,so 95 94]))
 (.reg [mv 82 14,bc 83 .sub 82 1,mv 14 83]))
def A.lb191_2:Zah:=.seq (sr [mv 30 8,bc 31 .geq 30 0]
 (cd 31
 (.skip)
 (.exit 0)))
 (.seq (.block 1 (.regD [mv 35 6,mv 36 8,mv 37 7,mv 38 0,mv 39 8,ia 40 1 38 39,ld 41 40,mv 42 1,ge 43 (.iaddrSl 1 (tq 42) (kq 0)),ld 44 43,ge 45 (.call (fq 237) [tq 37,tq 41,tq 44]),mv 34 45,xt 46 34 0,xt 47 34 1,ia 48 1 35 36,so 48 46,mv 7 47] [0,0,0,0,0,24,56,0,128,384,1020,2044,4092,4092,8191,24575,65535]))
 (.reg [mv 32 8,bc 33 .sub 32 1,mv 8 33]))
def A.b191:Zah:=sr [mN 4,mN 5]
 (.seq (sr [mv 16 0,mv 17 1,c2 18 227 16 17,bc 19 .lss 18 0]
 (cd 19
 (sr [mv 20 0,mN 4,mv 5 20]
 (.ret))
 (.skip)))
 (.seq (sr [mv 21 1,ln 22 21,ei 23 22 1]
 (cd 23
 (sr [mv 24 0,ln 25 24,ge 26 (.mkslice 255 1 8 [.int .u64 0] (tq 25) (tq 25)),mv 6 26]
 (sr [ge 7 (.mov (.const (.int .u64 0)))]
 (.seq (sr [mv 27 0,ln 28 27,bc 29 .sub 28 1,mv 8 29]
 (.block 0 (.loop A.lb191_2)))
 (sr [mv 49 6,c1 50 238 49,mv 51 7,ge 52 (.bslice 255 1 1 [.int .u64 0] [(0,1,(tq 51))]),c1 53 238 52,mv 4 50,mv 5 53]
 (.ret)))))
 (.skip)))
 (sr [mv 54 1,mv 55 1,ln 56 55,bc 57 .sub 56 1,ia 58 1 54 57,ld 59 58,c1 60 239 59,mv 9 60]
 (sr [mv 61 1,mv 62 9,c2 63 240 61 62,c1 64 238 63,mv 10 64]
 (sr [mv 65 0,mv 66 9,c2 67 240 65 66,mv 11 67]
 (sr [mv 68 10,ln 69 68,mv 12 69]
 (sr [mv 70 0,ln 71 70,mv 72 12,bi 73 .sub 71 72,bc 74 .add 73 1,ge 75 (.mkslice 255 1 8 [.int .u64 0] (tq 74) (tq 74)),mv 13 75]
 (.seq (sr [mv 76 0,ln 77 76,mv 78 12,bi 79 .sub 77 78,mv 14 79]
 (.block 2 (.loop A.lb191_1)))
 (.seq (sr [mv 96 12,mc 97 0]
 (.block 4 (.loop A.lb191_0)))
 (.seq (.regD [mv 131 13,c1 132 238 131,mv 133 11,mv 134 12,ge 135 (.sliceSl 1 (tq 133) none (some (tq 134)) none),c1 136 238 135,mv 4 132,mv 5 136] [0,1,0,0,12,31,63,127])
 (.ret)))))))))))
def A.k191:=@A.kk 191 137 [.tmp 4,.tmp 5] A.b191 (by kernel_rfl) rfl
def Yji{x y s:Nat}(hx:x<B)(h0:0<s)(hs:s<64):or64 (shr64 x s) (shl64 y (64-s))<B∧2^s*or64 (shr64 x s) (shl64 y (64-s))+x%2^s=x+B*(y%2^s):=by
 have hc:shr64 x s<2^(64-s):=by
  unfold shr64
  apply (Yst (Ytl s)).2
  rw[←Yte,show 64-s+s=64 by omega];exact hx
 rw[Zvl (by omega) hc]
 refine⟨Zoe (by omega) hc,?_⟩
 have e:shl64 y (64-s)=(y%2^s)*2^(64-s):=by
  unfold shl64
  have:(18446744073709551616:Nat)=2^s*2^(64-s):=by rw[←Yte,show s+(64-s)=64 by omega]
  rw[this,Yvh]
 have e2:2^s*(y%2^s*2^(64-s))=B*(y%2^s):=by
  have:B=2^s*2^(64-s):=by rw[←Yte,show s+(64-s)=64 by omega];rfl
  rw[this]
  generalize 2^s=p
  generalize 2^(64-s)=q
  grind
 rw[e,Yt7,e2]
 unfold shr64
 have:=Ytp x (2^s)
 omega
structure Dv1 (h:T O) (N iq:Nat) (X:List Nat) (b m:Nat) (r:T V) (st:St):Prop where
 n:st.n=N+1
 w:Zad N st.w=[]
 keep:Keeps h N st.h (N+1)
 ex:∃(rest:Nat) (Q:List Nat),m≤X.length∧r.get 8=some (.int .i64 ((m:Int)-1))∧r.get 7=some (.int .u64 rest)∧st.h.get N=some (.cells (dg Q) 255 true)∧Q.length=X.length∧Dg Q∧val B (X.drop m)=b*val B (Q.drop m)+rest∧rest<b
def Ygu{h:T O}{N b:Nat}{va vb:V}{X:List Nat}{r0:T V}(ha:Sl h N va (dg X))(hb:Sl h N vb (dg [b]))(dA:Dg X)(hbB:b<B)(hl:X.length<1099511627776)
  (a0:r0.get 0=some va) (a1:r0.get 1=some vb) (a6:r0.get 6=some (.slice N 0 X.length (some X.length) 1)):
  ∀k r st,(∀t,inD [(7,8),(30,48)] t=false→r.get t=r0.get t)→Fx [(7,8),(30,48)] r0 137 ⟨r,137,[]⟩→Dv1 h N N X b k r st→Code A.C none A.lb191_2 ⟨r,137,[]⟩ st (Rd [(7,8),(30,48)] r0 137 (Dv1 h N N X b) k (fun e r st=>e=.exit 0∧Dv1 h N N X b 0 r st)):=by
 rintro m r ⟨H,n1,W⟩ hr hf ⟨hn,hW,hK,rest,Q,hm,h8,h7,hrow,hQ,dQ,he,hlt⟩
 simp only at hn hW hK hrow
 subst hn
 have la:=ha.len
 have lb:=hb.len
 rw[Zaa]at la lb
 rw[Zaj]
 cases m with
 |zero=>
  simp[A.lb191_2,hr,hf,h8]
  exact⟨rfl,hW,hK,rest,Q,by omega,by simp[h8],by simp[h7],hrow,hQ,dQ,he,hlt⟩
 |succ m=>
  have gx:=Yr7 (l:=X) (i:=m) (by omega)
  generalize X[m]'(by omega)=x at*
  have hx:x<B:=dA.get gx
  obtain⟨i1,o1,c1,e1,w1,p1,p2,p3,p4⟩:=ha.at (Za5 gx)
  have p3:=(hK.get _ p2).trans p3
  obtain⟨i2,o2,c2,e2,w2,q1,q2,q3,q4⟩:=hb.at (Za5 (l:=[b]) (j:=0) rfl)
  have q3:=(hK.get _ q2).trans q3
  rw[Ytb]at q4
  have gq:=Yr7 (l:=Q) (i:=m) (by omega)
  have hm1:((m+1:Nat):Int)-1=(m:Int):=by omega
  have hml:m<X.length:=by omega
  have hi1:i1<N+1:=by omega
  have hi2:i2<N+1:=by omega
  have hne1:¬i1=N:=by omega
  have hne2:¬i2=N:=by omega
  have hne3:¬N=i1:=by omega
  have hne4:¬N=i2:=by omega
  rw[hm1]at h8
  have hd:=Zv9 (h:=H) (N:=N+1) hlt hbB hx
  obtain⟨q,hq⟩:∃q,(rest*18446744073709551616+x)/b=q:=⟨_,rfl⟩
  obtain⟨rr,hrr⟩:∃q,(rest*18446744073709551616+x)%b=q:=⟨_,rfl⟩
  rw[hq,hrr]at hd
  have hinv:b*q+rr=rest*B+x:=by
   have:=Ytp (rest*18446744073709551616+x) b
   rw[hq,hrr]at this
   exact this
  have hrl:rr<b:=by rw[←hrr];exact Ys9 _ (by omega)
  have hqB:q<B:=by
   rw[←hq];apply (Yst (by omega)).2
   have:=Ysq B (show rest+1≤b by omega)
   rw[Ysy B b]
   rw[Ys8]at this
   unfold B at*;omega
  simp[A.lb191_2,hr,hf,h8,h7,la,lb,a0,a1,a6,p1,p3,p4,q1,q3,q4,hml,hi1,hi2]
  refine Zaf hd ?_
  rintro _ H n2 hk3 ⟨rfl,rfl,rfl⟩
  simp(disch:=first|(simp;done)|omega|(simp only[Zaa,Zab,Yr2];omega)|rfl) [hr,hf,h8,h7,la,lb,a0,a1,a6,hrow,Zcz,hml,hi1,hi2,hne1,hne2,hne3,hne4,Zao.chk]
  refine⟨m,by omega,rfl,by simp[Zad,hW],hK.set (Yr4 _),rr,Q.set m q,by omega,by simp,by simp,by simp,by simp[hQ],dQ.set' hqB,?_,hrl⟩
  rw[Zcw gx,Zcw (Ys7 (by omega)),List.drop_set_of_lt (by omega),he,Yt7,Yt7]
  have:B*(b*val B (Q.drop (m+1)))=b*(B*val B (Q.drop (m+1))):=by grind
  rw[Ysy rest]at hinv
  omega
structure DvN (N n2:Nat) (h2:T O) (iu iq Nq lu k A0:Nat) (Y:List Nat) (m:Nat) (r:T V) (st:St):Prop where
 n:st.n=Nq
 w:Zad n2 st.w=[]
 keep:Keeps h2 n2 st.h Nq
 ex:∃(U Q:List Nat),r.get 14=some (.int .i64 ((m:Int)-1))∧st.h.get iu=some (.cells (dg U) 255 true)∧st.h.get iq=some (.cells (dg Q) 255 true)∧U.length=lu∧Q.length+(k+2)=lu∧m≤Q.length∧Dg U∧Dg Q∧(∀t,m+k+2≤t→t<lu→U[t]?=some 0)∧val B (U.drop m)<val B Y∧val B U+B^m*(val B (Q.drop m)*val B Y)=A0
def Ygt{h2:T O}{N n2 iu iq Nq lu k v1 A0:Nat}{Y:List Nat}{v:V}{r0:T V}{cq:Option Nat}(hv:Sl h2 n2 v (dg Y))(hY:Y.length=k+2)(dY:Dg Y)(hlu:lu<1099511627776)(f1:Y[k+1]?=some v1)(hv1:0<v1)(h2u:n2≤iu)(huq:iu<iq)(hq:iq<Nq)
  (hkl:k+2<lu) (a10:r0.get 10=some v) (a11:r0.get 11=some (.slice iu 0 lu (some lu) 1)) (a12:r0.get 12=some (.int .i64 ((k:Int)+2))) (a13:r0.get 13=some (.slice iq 0 (lu-(k+2)) cq 1)):
  ∀x r st,(∀t,inD [(14,14),(80,95)] t=false→r.get t=r0.get t)→Fx [(14,14),(80,95)] r0 137 ⟨r,137,[]⟩→DvN N n2 h2 iu iq Nq lu k A0 Y x r st→Code A.C none A.lb191_1 ⟨r,137,[]⟩ st (Rd [(14,14),(80,95)] r0 137 (DvN N n2 h2 iu iq Nq lu k A0 Y) x (fun e r st=>e=.exit 2∧DvN N n2 h2 iu iq Nq lu k A0 Y 0 r st)):=by
 rintro m r ⟨H,n1,W⟩ hr hf ⟨hn,hW,hK,U,Q,h14,hU,hQ,lU,lQ,hm,dU,dQ,hz,hlt,he⟩
 simp only at hn hW hK hU hQ
 subst hn
 rw[Zaj]
 cases m with
 |zero=>
  simp[A.lb191_1,hr,hf,h14]
  exact⟨rfl,hW,hK,U,Q,by simp[h14],hU,hQ,lU,lQ,hm,dU,dQ,hz,hlt,he⟩
 |succ m=>
  have hm1:((m+1:Nat):Int)-1=(m:Int):=by omega
  rw[hm1]at h14
  have gu:=Yr7 (l:=U) (i:=m) (by omega)
  generalize U[m]'(by omega)=um at*
  have humB:um<B:=dU.get gu
  have hsK:Zcx ⟨H,n1,W⟩ 1 (some (.slice iu 0 lu (some lu) 1)) (some (some (.int .i64 m))) (some (some (.int .i64 ((m:Int)+((k:Int)+2)+1)))) (some none)=some (.slice iu m (k+3) (some (lu-m)) 1,⟨H,n1,W⟩):=by
   have e1:(0:Int)≤(m:Int)+((k:Int)+2)+1∧(m:Int)+((k:Int)+2)+1≤(lu:Int):=by omega
   have e2:((m:Int)+((k:Int)+2)+1).toNat=m+k+3:=by omega
   have e3:¬lu=m:=by omega
   have e4:m≤m+k+3:=by omega
   have e5:m+k+3-m=k+3:=by omega
   have e6:(m:Int)≤((m+k+3:Nat):Int):=by omega
   simp only[Zcx,Za4,evOpt,Zav,Zd5,Option.map,Src.ev,e1,e2,e3,e5,e6,and_self,if_true,if_false,Int.natCast_nonneg,Int.toNat_natCast,true_and,ne_eq,not_true_eq_false,Option.isSome,Option.isNone,Bool.false_and,false_or,Yse,Yul,Yu6]
  have hmq:m<lu-(k+2):=by omega
  simp(disch:=first|(simp;done)|omega|(simp only[Zaa,Zab,Yr2];omega)|rfl) [A.lb191_1,hr,hf,h14,a10,a11,a12,a13,Zcj,evOpt,hsK]
  refine Zd7 (Zzv (n2:=n2) (k:=k) (U:=U) (v1:=v1) (hv.keep ⟨Yr4 _,fun i hi=>hK.get i hi⟩) hY dY h2u (by omega) (by omega) (by omega) hU dU f1 hv1 (fun t h1 h2=>hz t (by omega) (by omega)) ?_) ?_
  ·rw[Zcw gu]
   have:=Ysl B hlt
   rw[Nat.mul_succ]at this
   omega
  rintro x ⟨H2,n3,W2⟩ ⟨s1,s2,s3,q,o,rfl,s4,s5,s6,s7,s8,s9,s10,s11⟩
  simp only at s1 s2 s3 s5
  subst s1
  have hrowq:H2.get iq=some (.cells (dg Q) 255 true):=by rw[s3 iq (by omega)];exact hQ
  simp(disch:=first|(simp;done)|omega|(simp only[Zaa,Zab,Yr2];omega)|rfl) [hr,hf,h14,a10,a11,a12,a13,hmq,hrowq,Zcz]
  have hw':¬iq<n2:=by omega
  have hHe:∀i,i<n2→(H2.set iq (.cells (dg (Q.set m q)) 255 true)).get i=h2.get i:=fun i hi=>by
   rw[T.get_set,Yr3 (by omega),s3 i (by omega)];exact hK.get i hi
  refine⟨m,by omega,rfl,?_,⟨by omega,hHe⟩,o,Q.set m q,by simp,by simp[s5,(show ¬iu=iq by omega)],by simp,by omega,by simp;omega,by simp;omega,s7,dQ.set' s4,?_,s11,?_⟩
  ·simp only[Zad,hw',if_false]
   rw[s2];exact hW
  ·intro t h1 h2'
   exact s9 t (by omega) (by omega)
  ·have eU:=Zdc B U m (by omega)
   have eO:=Zdc B o m (by omega)
   have et:o.take m=U.take m:=by
    apply Ys1
    intro t
    rw[Yso,Yso]
    split
    ·exact s8 t (by omega)
    ·rfl
   rw[Zcw (Ys7 (by omega)),List.drop_set_of_lt (by omega),eO,et]
   rw[eU,←s10,Ysr]at he
   rw[←he]
   generalize val B (U.take m)=z1
   generalize val B (o.drop m)=z2
   generalize val B Y=z3
   generalize val B (Q.drop (m+1))=z4
   generalize B^m=z5
   grind
structure ShD (n2:Nat) (h2:T O) (iu iq Nq lu n s:Nat) (U Q:List Nat) (m:Nat) (r:T V) (st:St):Prop where
 hn:st.n=Nq
 w:Zad n2 st.w=[]
 keep:Keeps h2 n2 st.h Nq
 q:st.h.get iq=some (.cells (dg Q) 255 true)
 ex:∃(i:Nat) (o:List Nat),i+m=n∧r.get 97=some (.int .i64 i)∧st.h.get iu=some (.cells (dg o) 255 true)∧o.length=lu∧Dg o∧(∀t,i≤t→o[t]?=U[t]?)∧2^s*val B (o.take i)=val B (U.take i)+B^i*(dz U i%2^s)
def Yeu{h2:T O}{n2 iu iq Nq lu n s:Nat}{U Q:List Nat}{r0:T V}{cu:Option Nat}(hlu:lu<1099511627776)(lU:U.length=lu)(dU:Dg U)(hs:s<64)(h2u:n2≤iu)(huq:iu<iq)(hq:iq<Nq)(hn:n<lu)
  (a9:r0.get 9=some (.int .i64 s)) (a11:r0.get 11=some (.slice iu 0 lu cu 1)) (a96:r0.get 96=some (.int .i64 n)):
  ∀x r st,(∀t,inD [(15,15),(97,130)] t=false→r.get t=r0.get t)→Fx [(15,15),(97,130)] r0 137 ⟨r,137,[]⟩→ShD n2 h2 iu iq Nq lu n s U Q x r st→Code A.C none A.lb191_0 ⟨r,137,[]⟩ st (Rd [(15,15),(97,130)] r0 137 (ShD n2 h2 iu iq Nq lu n s U Q) x (fun e r st=>e=.exit 4∧ShD n2 h2 iu iq Nq lu n s U Q 0 r st)):=by
 rintro m r ⟨H,n1,W⟩ hr hf ⟨hn1,hW,hK,hQ,i,o,hi,h97,hrow,lo,dO,hsame,he⟩
 simp only at hn1 hW hK hQ hrow
 subst hn1
 rw[Zaj]
 cases m with
 |zero=>
  have:i=n:=by omega
  subst this
  simp[A.lb191_0,hr,hf,h97,a96]
  exact⟨rfl,hW,hK,hQ,i,o,by omega,by simp[h97],hrow,lo,dO,hsame,he⟩
 |succ m=>
  have hlt:i<n:=by omega
  have gx:U[i]?=some (U[i]'(by omega)):=Yr7 (by omega)
  have gy:U[i+1]?=some (U[i+1]'(by omega)):=Yr7 (by omega)
  generalize U[i]'(by omega)=x at*
  generalize U[i+1]'(by omega)=y at*
  have hx:x<B:=dU.get gx
  have hy:y<B:=dU.get gy
  have ox:o[i]?=some x:=by rw[hsame i (Yr4 _)];exact gx
  have oy:o[i+1]?=some y:=by rw[hsame (i+1) (by omega)];exact gy
  have hil:i<lu:=by omega
  have hil2:i+1<lu:=by omega
  have hil3:(i:Int)+1<(lu:Int):=by omega
  have hzx:dz U i=x:=by simp[dz,gx]
  have hzy:dz U (i+1)=y:=by simp[dz,gy]
  have hw':¬iu<n2:=by omega
  have hiu:iu<n1:=by omega
  have hqu:¬iq=iu:=by omega
  have hsB:shr64 x s<B:=Zu9 hx
  have hsB64:shr64 x s<18446744073709551616:=hsB
  have hx64:x<18446744073709551616:=hx
  have hy64:y<18446744073709551616:=hy
  have hxs:(s:Int)≤64:=by omega
  have K1:=fun v1 v2=>(hK.set (o:=v1) h2u).set (i:=iu) (o:=v2) h2u
  by_cases h0:0<s
  ·have h0':(0:Int)<(s:Int):=by omega
   obtain⟨z1,z2⟩:=Yji (y:=y) hx h0 hs
   have ox2:(o.set i (shr64 x s))[i]?=some (shr64 x s):=Ys7 (by omega)
   have oy2:(o.set i (shr64 x s))[i+1]?=some y:=by rw[Ysb (by omega)];exact oy
   have hlo2:(o.set i (shr64 x s)).length=lu:=by simp[lo]
   have hsub:Zap .i64 (64-(s:Int))=((64-s:Nat):Int):=by rw[Zak (by omega) (by omega)];omega
   simp(disch:=first|(simp;done)|omega|(simp only[Zaa,Zab,Yr2];omega)|rfl) [-getElem?_pos,A.lb191_0,hr,hf,h97,a96,a9,a11,hlt,hil,hil2,hrow,Za5 ox,Zcz,h0,h0',hil3,hsub,Za5 ox2,Za5 oy2,hlo2,hiu,Zao.chk]
   refine⟨m,by omega,rfl,by simp[Zad,hW,hw'],K1 _ _,by simp[hqu,hQ],i+1,(o.set i (shr64 x s)).set i (or64 (shr64 x s) (shl64 y (64-s))),by omega,by simp,by simp,by simp[lo],(dO.set' hsB).set' z1,?_,?_⟩
   ·intro t ht
    rw[Ysb (by omega),Ysb (by omega)]
    exact hsame t (by omega)
   ·rw[List.set_set,Zb4,Zb4,hzx,hzy,show dz (o.set i (or64 (shr64 x s) (shl64 y (64-s)))) i=or64 (shr64 x s) (shl64 y (64-s)) by simp[dz,Ys7 (show i<o.length by omega)]]
    have ht:(o.set i (or64 (shr64 x s) (shl64 y (64-s)))).take i=o.take i:=by
     apply Ys1
     intro t
     rw[Yso,Yso]
     split
     ·rw[Ysb (by omega)]
     ·rfl
    rw[ht]
    rw[hzx]at he
    have e2:B^i*(2^s*or64 (shr64 x s) (shl64 y (64-s))+x%2^s)=B^i*(x+B*(y%2^s)):=by rw[z2]
    rw[Ysr]
    generalize or64 (shr64 x s) (shl64 y (64-s))=z at*
    generalize val B (o.take i)=y1 at*
    generalize val B (U.take i)=y2 at*
    generalize x%2^s=y3 at*
    generalize y%2^s=y4 at*
    generalize (2:Nat)^s=y5 at*
    generalize B^i=y6 at*
    clear z2 ht K1
    grind
  ·have hs0:s=0:=by omega
   subst hs0
   have z0:shr64 x 0=x:=by unfold shr64;simp
   have hself:o.set i x=o:=by
    apply Ys1
    intro t
    by_cases ht:t=i
    ·subst ht;rw[Ys7 (by omega),ox]
    ·rw[Ysb (by omega)]
   simp(disch:=first|(simp;done)|omega|(simp only[Zaa,Zab,Yr2];omega)|rfl) [-getElem?_pos,A.lb191_0,hr,hf,h97,a96,a9,a11,hlt,hil,hil2,hrow,Za5 ox,Zcz,z0,hself]
   refine⟨m,by omega,rfl,by simp[Zad,hW,hw'],hK.set h2u,by simp[hqu,hQ],i+1,o,by omega,by simp,by simp,lo,dO,fun t ht=>hsame t (by omega),?_⟩
   rw[Zb4,Zb4,hzx,show dz o i=x by simp[dz,ox]]
   have:dz U i%2^0=0:=Nat.mod_one _
   rw[this]at he
   simp only[Yvo,Nat.one_mul,Nat.mod_one,Nat.mul_zero,Ytb]at he ⊢
   omega
def Yi2(h:(wds b).length=1):wds b=[b]∧b<B:=by
 obtain⟨h1,h2⟩:=Zdv (k:=0) h
 rw[Yvo]at h1
 rw[Yul,Nat.pow_one]at h2
 refine⟨?_,h2⟩
 rw[Zbn (by omega),Yuf h2,Zbl,Yt3 h2]
def Yeh{r:Nat}(h:r<B):Zgn [r]=wds r:=by
 rw[Zdj (by intro d hd;simp at hd;subst hd;exact h)]
 simp[val]
def Zr2{h:T O}{u v:V}{a:Nat}(hu:Wn h N u a)(hv:Wn h N v b)(hb:0<b)(hl:(wds a).length<1000000000000)(hl2:(wds b).length<1000000000000):Fn A.C 191 [u,v] h N (fun x h' n'=>∃q r,x=.tup [q,r]∧Wn h' n' q (a/b)∧Wn h' n' r (a%b)):=by
 intro w
 have lu:=hu.len
 have lv:=hv.len
 rw[Zaa]at lu lv
 rw[Zac,A.k191 (by simp)]
 simp[A.b191]
 refine Zaf (Zhd hu hv (by omega) (by omega)) ?_
 rintro _ h1 n1 k1 rfl
 by_cases hlt:a<b
 ·have c1:Zuf a b= -1:=by simp[Zuf,hlt]
  simp[c1,Ret]
  refine⟨k1,_,_,⟨rfl,rfl⟩,?_,?_⟩
  ·rw[Yuf hlt];unfold Wn;rw[Zbl];exact Sl.nil
  ·rw[Yt3 hlt];exact hu.keep k1
 ·have c1:¬Zuf a b<0:=by
   unfold Zuf
   rw[Yr3 (by omega)]
   split<;>omega
  have hu1:=hu.keep k1
  have hv1:=hv.keep k1
  have hle:=Zdb (a:=b) (b:=a) (by omega)
  by_cases h1l:(wds b).length=1
  ·obtain⟨e1,e2⟩:=Yi2 h1l
   have h1l':((wds b).length:Int)=1:=by omega
   have hv1':Sl h1 n1 v (dg [b]):=by rw[←e1];exact hv1
   simp(disch:=first|(simp;done)|omega|(simp only[Zaa,Zab,Yr2];omega)|rfl) [c1,lv,h1l,lu,Zae]
   refine Zai [(7,8),(30,48)] _ (Dv1 h1 n1 n1 (wds a) b) (wds a).length ?_ (Ygu hu1 hv1' (Zdi a) e2 (by omega) (by simp) (by simp) (by simp)) ?_
   ·refine⟨rfl,by simp,Keeps.refl.new _,0,List.replicate (wds a).length 0,Yr4 _,by simp,by simp,by simp[Zge],by simp,?_,?_,hb⟩
    ·intro d hd
     rw[Yve]at hd
     rw[hd.2];decide
    ·simp[val]
   rintro e r ⟨H,n2,W⟩ hr ⟨rfl,hn,hW,hK,rest,Q,hm,h8,h7,hrow,hQ,dQ,he,hrl⟩
   simp only at hn hW hK hrow
   subst hn
   simp[hr,h7]
   refine Zaf (Zfw (l:=Q) (Sl.row (e:=255) (rw:=true) (by omega) hrow (by rw[Zaa];exact hQ) (by simp)) (by omega)) ?_
   rintro q2 h3 n3 k3 hq
   simp[hr,h7,splice]
   have k4:Keeps h3 n3 (h3.set n3 (.cells [.int .u64 rest] 255 true)) (n3+1):=Keeps.refl.new _
   have hs5:Sl (h3.set n3 (.cells [.int .u64 rest] 255 true)) (n3+1) (.slice n3 0 1 (some 1) 1) (dg [rest]):=Sl.row (e:=255) (rw:=true) (L:=1) (Ytm n3) (by simp[dg]) (by simp) (by simp)
   refine Zaf (Zfw hs5 (by simp)) ?_
   rintro r2 h5 n5 k5 hr2
   simp only[Yuj,Zbm]at he
   have hqv:val B Q=a/b:=by
    rw[he,Nat.mul_add_div hb,Yuf hrl];omega
   have hrv:rest=a%b:=by
    rw[he,Nat.mul_add_mod,Yt3 hrl]
   rw[Zdj dQ,hqv]at hq
   rw[Yeh (by omega),hrv]at hr2
   simp[hr,Ret]
   exact⟨Zfl k1.le hW,((k1.trans hK).trans k3).trans (k4.trans k5),_,_,⟨rfl,rfl⟩,(hq.keep k4).keep k5,hr2⟩
  ·have hbl:(wds b).length≠0:=by
    rw[Zbn (by omega)];simp
   obtain⟨k,hk⟩:∃k,(wds b).length=k+2:=⟨(wds b).length-2,by omega⟩
   have h1l':¬(k:Int)+2=1:=by omega
   have gt:=Yr7 (l:=wds b) (i:=k+1) (by omega)
   generalize (wds b)[k+1]'(by omega)=bt at*
   have hbtB:bt<B:=(Zdi b).get gt
   have hbt0:¬bt=0:=by
    obtain⟨w1,w2⟩:=Zdv (k:=k+1) hk
    have:=(Zl2 w1 w2).2
    rw[gt]at this
    have e:=Ysx this
    have hp:0<B^(k+1):=Yu7 (by decide)
    have:=(Yu5 hp).2 (by rw[Nat.one_mul];exact w1)
    omega
   obtain⟨m1,m2,m3⟩:=Yh6 hbt0 hbtB
   have hlz:=fun (h:T O) (N:Nat)=>Ybz (h:=h) (N:=N) (x:=bt) hbtB
   generalize hs:64-blen bt=s at*
   obtain⟨i1,o1,cc1,e1,w1,p1,p2,p3,p4⟩:=hv1.at (Za5 gt)
   have t1:((k:Int)+2-1)=(k:Int)+1:=by omega
   rw[hk]at lv
   simp(disch:=omega) [c1,lv,Zae,p1,p3,p4,t1,h1l']
   refine Zaf (hlz _ _) ?_
   rintro _ h1 n1 k2 ⟨rfl,rfl,rfl⟩
   simp[lv]
   refine Zaf (Zog hv1 (Zdi b) m3 (by omega)) ?_
   rintro vv h2 n2 k3 ⟨iv,ov,g1,g2,rfl,g3,g4,g5,g6⟩
   simp[lv]
   refine Zaf (Zfw (l:=ov) (Sl.row (e:=255) (rw:=true) g2 g3 (by rw[Zaa];exact g4) (by simp)) (by omega)) ?_
   rintro vy h3 n3 k4 hy
   rw[Zdj g5,g6,Zbm]at hy
   obtain⟨y1,v1,y2,y3⟩:=Yea hk gt m1 m2 (by omega)
   have ly:=Sl.len hy
   rw[Zaa,y1]at ly
   have ly:Zot vy=some (k+2):=ly
   obtain⟨L,hL⟩:∃L,L+(k+2)=(wds a).length+1:=⟨(wds a).length+1-(k+2),by omega⟩
   have hLi:((wds a).length:Int)-((k:Int)+2)=(L:Int)-1:=by omega
   simp[]
   refine Zaf (Zog ((hu1.keep k3).keep k4) (Zdi a) m3 (by omega)) ?_
   rintro uu h4 n4 k5 ⟨iu,ou,j1,j2,rfl,j3,j4,j5,j6⟩
   simp(disch:=first|(simp;done)|omega|(simp only[Zaa,Zab,Yr2];omega)|rfl) [ly,lu,hLi,Zge]
   have hY0:0<v1:=by omega
   have k6:Keeps h4 n4 (h4.set n4 (.cells (dg (List.replicate L 0)) 255 true)) (n4+1):=Keeps.refl.new _
   have hyv:v1*B^(k+1)≤val B (wds (b*2^s)):=by
    obtain⟨w1,w2⟩:=Zdv (k:=k+1) y1
    have:=(Zl2 w1 w2).2
    rw[y2]at this
    have e:=Ysx this
    rw[Zbm,e]
    exact Nat.div_mul_le_self _ _
   refine Zai [(14,14),(80,95)] _ (DvN N n3 h3 iu n4 (n4+1) ((wds a).length+1) k (a*2^s) (wds (b*2^s))) L ?_ (Ygt (cq:=some L) (v1:=v1) hy (by omega) (Zdi _) (by omega) (by rw[y2]) hY0 j1 j2 (Ytm n4) (by omega) (by simp) (by simp) (by simp) ?_) ?_
   ·have hne:¬iu=n4:=by omega
    refine⟨rfl,rfl,(k5.trans k6),ou,List.replicate L 0,by simp,by simp[hne,j3],by simp,j4,by simp;omega,by simp,j5,?_,fun t ht1 ht2=>by omega,?_,?_⟩
    ·intro d hd
     rw[Yve]at hd
     rw[hd.2];decide
    ·have ha0:a≠0:=by omega
     have hla:(wds a).length≠0:=by rw[Zbn ha0];simp
     obtain⟨la1,hla1⟩:∃x,(wds a).length=x+1:=⟨(wds a).length-1,by omega⟩
     have hab:=(Zdv hla1).2
     rw[←hla1]at hab
     rw[Zbm]at j6
     exact Zzp (k:=k+1) j6 j4 (by omega) (by omega) hab m3 y3 hyv
    ·simp[val,j6,Zbm]
   ·have:(wds a).length+1-(k+2)=L:=by omega
    simp[this]
   rintro e r ⟨H,n5,W⟩ hr ⟨rfl,hn,hW,hK,U,Q,h14,hU,hQ,lU,lQ,hm,dU,dQ,hz,hlt2,he⟩
   simp only at hn hW hK hU hQ
   subst hn
   simp only[Yuj,Yvo,Nat.one_mul]at he hlt2
   simp[hr]
   refine Zai [(15,15),(97,130)] _ (ShD n3 h3 iu n4 (n4+1) ((wds a).length+1) (k+2) s U Q) (k+2) ?_ (Yeu (cu:=some ((wds a).length+1)) (by omega) lU dU m3 j1 j2 (Ytm n4) (by omega) (by simp[hr]) (by simp[hr]) (by simp[hr])) ?_
   ·refine⟨rfl,hW,hK,hQ,0,U,by omega,by simp,hU,lU,dU,fun _ _=>rfl,?_⟩
    obtain⟨x,hx⟩:∃x,val B U=2^s*x:=by
     refine⟨a-val B Q*b,?_⟩
     rw[Zbm]at he
     rw[Nat.mul_sub,Ysy _ a,←he]
     have:val B Q*(b*2^s)=2^s*(val B Q*b):=by grind
     omega
    have hz0:dz U 0%2^s=0:=by
     have h1:=Zb4 (b:=B) (l:=U) (k:=0)
     have h2:=Zdc B U 1 (by omega)
     simp only[List.take_zero,val,Yvo,Nat.one_mul,Yul,Nat.pow_one]at h1 h2
     rw[h1,hx]at h2
     have h3:B=2^s*2^(64-s):=by rw[←Yte,show s+(64-s)=64 by omega];rfl
     rw[h3,Yvi]at h2
     have h4:dz U 0=2^s*(x-2^(64-s)*val (2^s*2^(64-s)) (U.drop 1)):=by rw[Nat.mul_sub];omega
     rw[h4,Nat.mul_mod_right]
    rw[hz0];simp[val]
   rintro e r2 ⟨H2,n5,W2⟩ hr2 ⟨rfl,hn2,hW2,hK2,hQ2,i,o,hi,h97,hrow,lo,dO,hsame,he2⟩
   simp only at hn2 hW2 hK2 hQ2 hrow
   subst hn2
   have:i=k+2:=by omega
   subst this
   simp[hr2,hr]
   refine Zaf (Zfw (l:=Q) (Sl.row (e:=255) (rw:=true) (Ytm n4) hQ2 (by rw[Zaa];omega) (by simp)) (by omega)) ?_
   rintro q2 h6 n6 k6 hq
   have hsU:Sl h6 n6 (.slice iu 0 ((wds a).length+1) (some ((wds a).length+1)) 1) (dg o):=(Sl.row (h:=H2) (N:=n4+1) (by omega) hrow (by rw[Zaa];exact lo) (by simp)).keep k6
   obtain⟨v',e1,e2⟩:=Zjg (w:=[]) hsU (lo:=0) (hi:=k+2) (Yuv _) (by rw[Zaa];omega) none (some (.int .i64 ((k+2:Nat):Int))) (.inr ⟨rfl,rfl⟩) (.inl rfl)
   rw[show ((k+2:Nat):Int)=(k:Int)+2 by omega]at e1
   simp[hr2,hr,Zcj,evOpt,e1]
   rw[Yuj,show (dg o).take (k+2)=dg (o.take (k+2)) by simp[dg]]at e2
   refine Zaf (Zfw (l:=o.take (k+2)) e2 (by rw[Ysi];omega)) ?_
   rintro r3 h7 n7 k7 hr3
   rw[Zdj dQ]at hq
   rw[Zdj (fun d hd=>dO d (Ytn hd))]at hr3
   rw[Zbm]at he hlt2
   have hbs:0<b*2^s:=Yvd hb (Ytl s)
   have hU0:dz U (k+2)=0:=by simp[dz,hz (k+2) (by omega) (by omega)]
   have hUt:val B (U.take (k+2))=val B U:=by
    have h1:=Zdc B U (k+2) (by omega)
    rw[Zfu (fun t t1 t2=>hz t (by omega) (by omega))]at h1
    omega
   have hqv:val B Q=a/b:=by
    have h1:a*2^s/(b*2^s)=val B Q:=by
     rw[←he,Nat.add_mul_div_right _ _ hbs,Yuf hlt2];omega
    rw[Yvy _ _ (Ytl s)]at h1
    exact h1.symm
   have hrv:val B (o.take (k+2))=a%b:=by
    have h1:a*2^s%(b*2^s)=val B U:=by
     rw[←he,Nat.add_mul_mod_self_right,Yt3 hlt2]
    rw[Yvh,Ysy]at h1
    rw[hU0,Nat.zero_mod,Nat.mul_zero,Ytb,hUt,←h1]at he2
    exact Nat.eq_of_mul_eq_mul_left (Ytl s) he2
   rw[hqv]at hq
   rw[hrv]at hr3
   simp[hr2,hr,Zao.chk,Ret]
   have kk:=(k1.trans k3).trans k4
   exact⟨Zfl kk.le hW2,((kk.trans hK2).trans k6).trans k7,q2,r3,⟨rfl,rfl⟩,Sl.keep hq k7,hr3⟩
end Go.Mx
