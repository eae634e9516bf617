/-num-/
import Derived.Test.YteoackkadadmdaaGreatDoorNaG
set_option linter.all false
namespace Go.Mx
open Go Go.Proofs
variable {N b:Nat}
set_option maxHeartbeats 8000000
set_option maxRecDepth 1000000
def A.jF:av:=sr [bi 98 .lss 97 96]
 (.seq (cd 98
 (.skip)
 (.exit 4))
 (.seq (.block 5 (sr [mv 99 97,mv 15 99]
 (sr [mv 100 11,mv 101 15,ia 102 1 100 101,ld 103 102,mv 104 9,bi 105 .shr 103 104,ia 106 1 100 101,so 106 105]
 (sr [mv 107 9,bc 108 .gtr 107 0,mv 109 108,mg 110 15 109,gy 111 109 (.bin .add (.node []) false (tq 110) (kq 1)),mg 112 11 109,gy 113 109 (.len 1 (tq 112)),gy 114 109 (.bin .lss (.node []) false (tq 111) (tq 113)),pf 115 109 114]
 (cd 115
 (.aX [mv 116 11,mv 117 15,ia 118 1 116 117,ld 119 118,mv 120 11,mv 121 15,bc 122 .add 121 1,ia 123 1 120 122,ld 124 123,mv 125 9,ge 126 (.bin .sub (.node []) false (kq 64) (tq 125)),bi 127 .shl 124 126,bi 128 .or 119 127,ia 129 1 116 117,so 129 128] [0,0,3,7,0,0,32,112,240,0,512,2032,4095,8191,16383])
 (.skip))))))
 (.aR [bc 130 .add 97 1,mv 97 130])))
def A.mJ:av:=.seq (sr [mv 80 14,bc 81 .geq 80 0]
 (cd 81
 (.skip)
 (.exit 2)))
 (.seq (.block 3 (.aR [mv 84 13,mv 85 14,mv 86 11,mv 87 14,mv 88 14,mv 89 12,bi 90 .add 88 89,bc 91 .add 90 1,ge 92 (.cQ 1 (tq 86) (some (tq 87)) (some (tq 91)) none),mv 93 10,c2 94 252 92 93,ia 95 1 84 85,so 95 94]))
 (.aR [mv 82 14,bc 83 .sub 82 1,mv 14 83]))
def A.mK:av:=.seq (sr [mv 30 8,bc 31 .geq 30 0]
 (cd 31
 (.skip)
 (.exit 0)))
 (.seq (.block 1 (.aX [mv 35 6,mv 36 8,mv 37 7,mv 38 0,mv 39 8,ia 40 1 38 39,ld 41 40,mv 42 1,ge 43 (.aU 1 (tq 42) (kq 0)),ld 44 43,ge 45 (.call (fq 249) [tq 37,tq 41,tq 44]),mv 34 45,xt 46 34 0,xt 47 34 1,ia 48 1 35 36,so 48 46,mv 7 47] [0,0,0,0,0,24,56,0,128,384,1020,2044,4092,4092,8191,24575,65535]))
 (.aR [mv 32 8,bc 33 .sub 32 1,mv 8 33]))
def A.b212:av:=sr [mN 4,mN 5]
 (.seq (sr [mv 16 0,mv 17 1,c2 18 199 16 17,bc 19 .lss 18 0]
 (cd 19
 (sr [mv 20 0,mN 4,mv 5 20]
 (.ret))
 (.skip)))
 (.seq (sr [mv 21 1,ln 22 21,ei 23 22 1]
 (cd 23
 (sr [mv 24 0,ln 25 24,ge 26 (.bY 203 1 8 [.int .u64 0] (tq 25) (tq 25)),mv 6 26]
 (sr [ge 7 (.ba (.const (.int .u64 0)))]
 (.seq (sr [mv 27 0,ln 28 27,bc 29 .sub 28 1,mv 8 29]
 (.block 0 (.loop A.mK)))
 (sr [mv 49 6,c1 50 240 49,mv 51 7,ge 52 (.aV 203 1 1 [.int .u64 0] [(0,1,(tq 51))]),c1 53 240 52,mv 4 50,mv 5 53]
 (.ret)))))
 (.skip)))
 (sr [mv 54 1,mv 55 1,ln 56 55,bc 57 .sub 56 1,ia 58 1 54 57,ld 59 58,c1 60 250 59,mv 9 60]
 (sr [mv 61 1,mv 62 9,c2 63 251 61 62,c1 64 240 63,mv 10 64]
 (sr [mv 65 0,mv 66 9,c2 67 251 65 66,mv 11 67]
 (sr [mv 68 10,ln 69 68,mv 12 69]
 (sr [mv 70 0,ln 71 70,mv 72 12,bi 73 .sub 71 72,bc 74 .add 73 1,ge 75 (.bY 203 1 8 [.int .u64 0] (tq 74) (tq 74)),mv 13 75]
 (.seq (sr [mv 76 0,ln 77 76,mv 78 12,bi 79 .sub 77 78,mv 14 79]
 (.block 2 (.loop A.mJ)))
 (.seq (sr [mv 96 12,mc 97 0]
 (.block 4 (.loop A.jF)))
 (.seq (.aX [mv 131 13,c1 132 240 131,mv 133 11,mv 134 12,ge 135 (.cQ 1 (tq 133) none (some (tq 134)) none),c1 136 240 135,mv 4 132,mv 5 136] [0,1,0,0,12,31,63,127])
 (.ret)))))))))))
def A.c212:A.F 212=some ⟨137,[.tmp 4,.tmp 5],A.b212⟩:=by kernel_rfl
def A.k212:=@A.kk 212 _ _ _ A.c212 rfl
def Yl1{x y s:Nat}(hx:x<B)(h0:0<s)(hs:s<64):ja (au x s) (bU y (64-s))<B/\2^s*ja (au x s) (bU y (64-s))+x%2^s=x+B*(y%2^s):=by
 have hc:au x s<2^(64-s):=by
  unfold au
  apply (pz (sN s)).2
  rw[<-kQ,show 64-s+s=64 by omega];exact hx
 rw[PJ (by omega) hc]
 refine⟨Zpk (by omega) hc,?_⟩
 have e:bU y (64-s)=(y%2^s)*2^(64-s):=by
  unfold bU
  have:(18446744073709551616:Nat)=2^s*2^(64-s):=by rw[<-kQ,show s+(64-s)=64 by omega]
  rw[this,Ke]
 have e2:2^s*(y%2^s*2^(64-s))=B*(y%2^s):=by
  have:B=2^s*2^(64-s):=by rw[<-kQ,show s+(64-s)=64 by omega];rfl
  rw[this]
  generalize 2^s=p
  generalize 2^(64-s)=q
  grind
 rw[e,sL,e2]
 unfold au
 have:=tP x (2^s)
 omega
structure PL (h:T O) (N iq:Nat) (X:List Nat) (b m:Nat) (r:T V) (st:St):Prop where
 n:st.n=N+1
 w:ax N st.w=[]
 ae:ab h N st.h (N+1)
 ex:∃(rest:Nat) (Q:List Nat),m<=X.length/\r.get 8=some (.int .i64 ((m:Int)-1))/\r.get 7=some (.int .u64 rest)/\st.h.get N=some (.cells (dg Q) 203 true)/\Q.length=X.length/\Dg Q/\val B (X.drop m)=b*val B (Q.drop m)+rest/\rest<b
def Yi0{h:T O}{N b:Nat}{va vb:V}{X:List Nat}{r0:T V}(ha:Sl h N va (dg X))(hb:Sl h N vb (dg [b]))(dA:Dg X)(hbB:b<B)(hl:X.length<1099511627776)
  (a0:r0.get 0=some va) (a1:r0.get 1=some vb) (a6:r0.get 6=some (.slice N 0 X.length (some X.length) 1)):
  ∀k r st,(∀t,jD [(7,8),(30,48)] t=false->r.get t=r0.get t)->Fx [(7,8),(30,48)] r0 137 ⟨r,137,[]⟩->PL h N N X b k r st->Code A.C none A.mK ⟨r,137,[]⟩ st (Rd [(7,8),(30,48)] r0 137 (PL h N N X b) k (fun e r st=>e=.exit 0/\PL h N N X b 0 r st)):=by
 rintro m r ⟨H,n1,W⟩ hr hf ⟨hn,hW,hK,rest,Q,hm,h8,h7,ak,hQ,dQ,he,ay⟩
 simp only at hn hW hK ak
 subst hn
 have la:=ha.len
 have lb:=hb.len
 rw[bI]at la lb
 rw[bq]
 cases m with
 |zero=>
  simp[A.mK,hf,h8]
  exact⟨rfl,hW,hK,rest,Q,by omega,by simp[h8],by simp[h7],ak,hQ,dQ,he,ay⟩
 |succ m=>
  have gx:=cZ (l:=X) (i:=m) (by omega)
  generalize X[m]'(by omega)=x at*
  have hx:x<B:=dA.get gx
  obtain⟨i1,o1,c1,e1,w1,p1,p2,p3,p4⟩:=ha.at (fv gx)
  have p3:=(hK.get _ p2).trans p3
  obtain⟨i2,o2,c2,e2,w2,q1,q2,q3,q4⟩:=hb.at (fv (l:=[b]) (j:=0) rfl)
  have q3:=(hK.get _ q2).trans q3
  rw[ka]at q4
  have gq:=cZ (l:=Q) (i:=m) (by omega)
  have mq:((m+1:Nat):Int)-1=(m:Int):=by omega
  have jQ:m<X.length:=by omega
  have yF:i1<N+1:=by omega
  have CD:i2<N+1:=by omega
  have zas:¬i1=N:=by omega
  have nY:¬i2=N:=by omega
  have zat:¬N=i1:=by omega
  have zau:¬N=i2:=by omega
  rw[mq]at h8
  have hd:=Zxj (h:=H) (N:=N+1) ay hbB hx
  obtain⟨q,hq⟩:∃q,(rest*18446744073709551616+x)/b=q:=⟨_,rfl⟩
  obtain⟨rr,CE⟩:∃q,(rest*18446744073709551616+x)%b=q:=⟨_,rfl⟩
  rw[hq,CE]at hd
  have hinv:b*q+rr=rest*B+x:=by
   have:=tP (rest*18446744073709551616+x) b
   rw[hq,CE]at this
   exact this
  have wx:rr<b:=by rw[<-CE];exact kh _ (by omega)
  have yX:q<B:=by
   rw[<-hq];apply (pz (by omega)).2
   have:=lV B (show rest+1<=b by omega)
   rw[iX B b]
   rw[iW]at this
   unfold B at*;omega
  simp[A.mK,hr,h8,h7,la,lb,a0,a1,a6,p1,p3,p4,q1,q3,q4,jQ,yF,CD]
  refine aA hd ?_
  rintro _ H n2 Bc ⟨rfl,rfl,rfl⟩
  simp(disch:=first|(simp;done)|omega|(simp only[bI,cC,bD];omega)|rfl) [hf,h8,ak,pR]
  refine⟨m,by omega,rfl,by simp[ax,hW],hK.set (aW _),rr,Q.set m q,by omega,by simp,by simp,by simp,by simp[hQ],dQ.tl yX,?_,wx⟩
  rw[Be gx,Be (iI (by omega)),List.drop_set_of_lt (by omega),he,sL,sL]
  have:B*(b*val B (Q.drop (m+1)))=b*(B*val B (Q.drop (m+1))):=by grind
  rw[iX rest]at hinv
  omega
structure PM (N n2:Nat) (h2:T O) (iu iq Nq lu k A0:Nat) (Y:List Nat) (m:Nat) (r:T V) (st:St):Prop where
 n:st.n=Nq
 w:ax n2 st.w=[]
 ae:ab h2 n2 st.h Nq
 ex:∃(U Q:List Nat),r.get 14=some (.int .i64 ((m:Int)-1))/\st.h.get iu=some (.cells (dg U) 203 true)/\st.h.get iq=some (.cells (dg Q) 203 true)/\U.length=lu/\Q.length+(k+2)=lu/\m<=Q.length/\Dg U/\Dg Q/\(∀t,m+k+2<=t->t<lu->U[t]?=some 0)/\val B (U.drop m)<val B Y/\val B U+B^m*(val B (Q.drop m)*val B Y)=A0
def Yiz{h2:T O}{N n2 iu iq Nq lu k v1 A0:Nat}{Y:List Nat}{v:V}{r0:T V}{cq:Option Nat}(hv:Sl h2 n2 v (dg Y))(hY:Y.length=k+2)(dY:Dg Y)(ue:lu<1099511627776)(f1:Y[k+1]?=some v1)(nK:0<v1)(LF:n2<=iu)(Es:iu<iq)(hq:iq<Nq)
  (yB:k+2<lu) (Jb:r0.get 10=some v) (CF:r0.get 11=some (.slice iu 0 lu (some lu) 1)) (CG:r0.get 12=some (.int .i64 ((k:Int)+2))) (a13:r0.get 13=some (.slice iq 0 (lu-(k+2)) cq 1)):
  ∀x r st,(∀t,jD [(14,14),(80,95)] t=false->r.get t=r0.get t)->Fx [(14,14),(80,95)] r0 137 ⟨r,137,[]⟩->PM N n2 h2 iu iq Nq lu k A0 Y x r st->Code A.C none A.mJ ⟨r,137,[]⟩ st (Rd [(14,14),(80,95)] r0 137 (PM N n2 h2 iu iq Nq lu k A0 Y) x (fun e r st=>e=.exit 2/\PM N n2 h2 iu iq Nq lu k A0 Y 0 r st)):=by
 rintro m r ⟨H,n1,W⟩ hr hf ⟨hn,hW,hK,U,Q,nZ,hU,hQ,lU,lQ,hm,dU,dQ,hz,ay,he⟩
 simp only at hn hW hK hU hQ
 subst hn
 rw[bq]
 cases m with
 |zero=>
  simp[A.mJ,hf,nZ]
  exact⟨rfl,hW,hK,U,Q,by simp[nZ],hU,hQ,lU,lQ,hm,dU,dQ,hz,ay,he⟩
 |succ m=>
  have mq:((m+1:Nat):Int)-1=(m:Int):=by omega
  rw[mq]at nZ
  have gu:=cZ (l:=U) (i:=m) (by omega)
  generalize U[m]'(by omega)=um at*
  have zav:um<B:=dU.get gu
  have hsK:mB ⟨H,n1,W⟩ 1 (some (.slice iu 0 lu (some lu) 1)) (some (some (.int .i64 m))) (some (some (.int .i64 ((m:Int)+((k:Int)+2)+1)))) (some none)=some (.slice iu m (k+3) (some (lu-m)) 1,⟨H,n1,W⟩):=by
   have e1:(0:Int)<=(m:Int)+((k:Int)+2)+1/\(m:Int)+((k:Int)+2)+1<=(lu:Int):=by omega
   have e2:((m:Int)+((k:Int)+2)+1).toNat=m+k+3:=by omega
   have e3:¬lu=m:=by omega
   have e4:m<=m+k+3:=by omega
   have e5:m+k+3-m=k+3:=by omega
   have e6:(m:Int)<=((m+k+3:Nat):Int):=by omega
   simp only[mB,pC,aC,dB,ki,Option.map,Src.ev,e1,e2,e3,e5,e6,and_self,if_true,if_false,Int.natCast_nonneg,Int.toNat_natCast,ne_eq,not_true_eq_false,Option.isSome,Option.isNone,BM,false_or,fF,xJ,yc]
  have hmq:m<lu-(k+2):=by omega
  simp(disch:=first|(simp;done)|omega|(simp only[bI,cC,bD];omega)|rfl) [A.mJ,hr,nZ,Jb,CF,CG,a13,AG,aC,hsK]
  refine zy (Ybi (n2:=n2) (k:=k) (U:=U) (v1:=v1) (hv.ae ⟨aW _,fun i hi=>hK.get i hi⟩) hY dY LF (by omega) (by omega) (by omega) hU dU f1 nK (fun t h1 h2=>hz t (by omega) (by omega)) ?_) ?_
  ·rw[Be gu]
   have:=kg B ay
   rw[Nat.mul_succ]at this
   omega
  rintro x ⟨H2,n3,W2⟩ ⟨s1,s2,s3,q,o,rfl,s4,s5,s6,s7,s8,s9,s10,s11⟩
  simp only at s1 s2 s3 s5
  subst s1
  have LG:H2.get iq=some (.cells (dg Q) 203 true):=by rw[s3 iq (by omega)];exact hQ
  simp(disch:=first|(simp;done)|omega|(simp only[bI,cC,bD];omega)|rfl) [hf,nZ,LG,pR]
  have vg:¬iq<n2:=by omega
  have hHe:∀i,i<n2->(H2.set iq (.cells (dg (Q.set m q)) 203 true)).get i=h2.get i:=fun i hi=>by
   rw[T.ag,ar (by omega),s3 i (by omega)];exact hK.get i hi
  refine⟨m,by omega,rfl,?_,⟨by omega,hHe⟩,o,Q.set m q,by simp,by simp[s5,(show ¬iu=iq by omega)],by simp,by omega,by simp;omega,by simp;omega,s7,dQ.tl s4,?_,s11,?_⟩
  ·simp only[ax,vg,if_false]
   rw[s2];exact hW
  ·intro t h1 lO
   exact s9 t (by omega) (by omega)
  ·have eU:=Et B U m (by omega)
   have eO:=Et B o m (by omega)
   have et:o.take m=U.take m:=by
    apply nD
    intro t
    rw[iy,iy]
    split
    ·exact s8 t (by omega)
    ·rfl
   rw[Be (iI (by omega)),List.drop_set_of_lt (by omega),eO,et]
   rw[eU,<-s10,gE]at he
   rw[<-he]
   generalize val B (U.take m)=z1
   generalize val B (o.drop m)=z2
   generalize val B Y=z3
   generalize val B (Q.drop (m+1))=z4
   generalize B^m=z5
   grind
structure PN (n2:Nat) (h2:T O) (iu iq Nq lu n s:Nat) (U Q:List Nat) (m:Nat) (r:T V) (st:St):Prop where
 hn:st.n=Nq
 w:ax n2 st.w=[]
 ae:ab h2 n2 st.h Nq
 q:st.h.get iq=some (.cells (dg Q) 203 true)
 ex:∃(i:Nat) (o:List Nat),i+m=n/\r.get 97=some (.int .i64 i)/\st.h.get iu=some (.cells (dg o) 203 true)/\o.length=lu/\Dg o/\(∀t,i<=t->o[t]?=U[t]?)/\2^s*val B (o.take i)=val B (U.take i)+B^i*(dz U i%2^s)
def Ygq{h2:T O}{n2 iu iq Nq lu n s:Nat}{U Q:List Nat}{r0:T V}{cu:Option Nat}(ue:lu<1099511627776)(lU:U.length=lu)(dU:Dg U)(hs:s<64)(LF:n2<=iu)(Es:iu<iq)(hq:iq<Nq)(hn:n<lu)
  (a9:r0.get 9=some (.int .i64 s)) (CF:r0.get 11=some (.slice iu 0 lu cu 1)) (V1:r0.get 96=some (.int .i64 n)):
  ∀x r st,(∀t,jD [(15,15),(97,130)] t=false->r.get t=r0.get t)->Fx [(15,15),(97,130)] r0 137 ⟨r,137,[]⟩->PN n2 h2 iu iq Nq lu n s U Q x r st->Code A.C none A.jF ⟨r,137,[]⟩ st (Rd [(15,15),(97,130)] r0 137 (PN n2 h2 iu iq Nq lu n s U Q) x (fun e r st=>e=.exit 4/\PN n2 h2 iu iq Nq lu n s U Q 0 r st)):=by
 rintro m r ⟨H,n1,W⟩ hr hf ⟨wZ,hW,hK,hQ,i,o,hi,LH,ak,lo,dO,eA,he⟩
 simp only at wZ hW hK hQ ak
 subst wZ
 rw[bq]
 cases m with
 |zero=>
  have:i=n:=by omega
  subst this
  simp[A.jF,hr,hf,LH,V1]
  exact⟨rfl,hW,hK,hQ,i,o,by omega,by simp[LH],ak,lo,dO,eA,he⟩
 |succ m=>
  have ay:i<n:=by omega
  have gx:U[i]?=some (U[i]'(by omega)):=cZ (by omega)
  have gy:U[i+1]?=some (U[i+1]'(by omega)):=cZ (by omega)
  generalize U[i]'(by omega)=x at*
  generalize U[i+1]'(by omega)=y at*
  have hx:x<B:=dU.get gx
  have hy:y<B:=dU.get gy
  have ox:o[i]?=some x:=by rw[eA i (aW _)];exact gx
  have oy:o[i+1]?=some y:=by rw[eA (i+1) (by omega)];exact gy
  have Uy:i<lu:=by omega
  have zaw:i+1<lu:=by omega
  have V2:(i:Int)+1<(lu:Int):=by omega
  have pL:dz U i=x:=by simp[dz,gx]
  have hzy:dz U (i+1)=y:=by simp[dz,gy]
  have vg:¬iu<n2:=by omega
  have hiu:iu<n1:=by omega
  have hqu:¬iq=iu:=by omega
  have hsB:au x s<B:=Zwb hx
  have zac:au x s<18446744073709551616:=hsB
  have zax:x<18446744073709551616:=hx
  have GK:y<18446744073709551616:=hy
  have px:(s:Int)<=64:=by omega
  have K1:=fun v1 v2=>(hK.set (o:=v1) LF).set (i:=iu) (o:=v2) LF
  by_cases h0:0<s
  ·have jc:(0:Int)<(s:Int):=by omega
   obtain⟨z1,z2⟩:=Yl1 (y:=y) hx h0 hs
   have ox2:(o.set i (au x s))[i]?=some (au x s):=iI (by omega)
   have oy2:(o.set i (au x s))[i+1]?=some y:=by rw[ec (by omega)];exact oy
   have vo:(o.set i (au x s)).length=lu:=by simp[lo]
   have V3:bu .i64 (64-(s:Int))=((64-s:Nat):Int):=by rw[cF (by omega) (by omega)];omega
   simp(disch:=first|(simp;done)|omega|(simp only[bI,cC,bD];omega)|rfl) [-getElem?_pos,A.jF,hr,hf,LH,V1,a9,CF,ay,ak,fv ox,pR,h0,V2,V3,fv ox2,fv oy2,hiu]
   refine⟨m,by omega,rfl,by simp[ax,hW,vg],K1 _ _,by simp[hqu,hQ],i+1,(o.set i (au x s)).set i (ja (au x s) (bU y (64-s))),by omega,by simp,by simp,by simp[lo],(dO.tl hsB).tl z1,?_,?_⟩
   ·intro t ht
    rw[ec (by omega),ec (by omega)]
    exact eA t (by omega)
   ·rw[List.set_set,Cz,Cz,pL,hzy,show dz (o.set i (ja (au x s) (bU y (64-s)))) i=ja (au x s) (bU y (64-s)) by simp[dz,iI (show i<o.length by omega)]]
    have ht:(o.set i (ja (au x s) (bU y (64-s)))).take i=o.take i:=by
     apply nD
     intro t
     rw[iy,iy]
     split
     ·rw[ec (by omega)]
     ·rfl
    rw[ht]
    rw[pL]at he
    have e2:B^i*(2^s*ja (au x s) (bU y (64-s))+x%2^s)=B^i*(x+B*(y%2^s)):=by rw[z2]
    rw[gE]
    generalize ja (au x s) (bU y (64-s))=z at*
    generalize val B (o.take i)=y1 at*
    generalize val B (U.take i)=y2 at*
    generalize x%2^s=y3 at*
    generalize y%2^s=y4 at*
    generalize (2:Nat)^s=y5 at*
    generalize B^i=y6 at*
    clear z2 ht K1
    grind
  ·have lZ:s=0:=by omega
   subst lZ
   have z0:au x 0=x:=by unfold au;simp
   have LI:o.set i x=o:=by
    apply nD
    intro t
    by_cases ht:t=i
    ·subst ht;rw[iI (by omega),ox]
    ·rw[ec (by omega)]
   simp(disch:=first|(simp;done)|omega|(simp only[bI,cC,bD];omega)|rfl) [-getElem?_pos,A.jF,hr,hf,LH,V1,a9,CF,ay,ak,fv ox,pR,z0,LI]
   refine⟨m,by omega,rfl,by simp[ax,hW,vg],hK.set LF,by simp[hqu,hQ],i+1,o,by omega,by simp,by simp,lo,dO,fun t ht=>eA t (by omega),?_⟩
   rw[Cz,Cz,pL,show dz o i=x by simp[dz,ox]]
   have:dz U i%2^0=0:=Nat.mod_one _
   rw[this]at he
   simp only[DC,Nat.one_mul,Nat.mod_one,Nat.mul_zero,ka]at he ⊢
   omega
def Yle(h:(aJ b).length=1):aJ b=[b]/\b<B:=by
 obtain⟨h1,h2⟩:=GL (k:=0) h
 rw[DC]at h1
 rw[xJ,Nat.pow_one]at h2
 refine⟨?_,h2⟩
 rw[mG (by omega),zo h2,qG,xI h2]
def Ygc{r:Nat}(h:r<B):se [r]=aJ r:=by
 rw[CA (by intro d hd;simp at hd;subst hd;exact h)]
 simp[val]
def Ztf{h:T O}{u v:V}{a:Nat}(hu:Wn h N u a)(hv:Wn h N v b)(hb:0<b)(hl:(aJ a).length<1000000000000)(kO:(aJ b).length<1000000000000):Fn A.C 212 [u,v] h N (fun x h' n'=>∃q r,x=.bg [q,r]/\Wn h' n' q (a/b)/\Wn h' n' r (a%b)):=by
 intro w
 have lu:=hu.len
 have lv:=hv.len
 rw[bI]at lu lv
 rw[aO,A.k212 (by simp)]
 simp[A.b212]
 refine aA (Zhz hu hv (by omega) (by omega)) ?_
 rintro _ h1 n1 k1 rfl
 by_cases ay:a<b
 ·have c1:vk a b= -1:=by simp[vk,ay]
  simp[c1,az]
  refine⟨k1,_,_,⟨rfl,rfl⟩,?_,?_⟩
  ·rw[zo ay];unfold Wn;rw[qG];exact Sl.nil
  ·rw[xI ay];exact hu.ae k1
 ·have c1:¬vk a b<0:=by
   unfold vk
   rw[ar (by omega)]
   split<;>omega
  have xO:=hu.ae k1
  have nK:=hv.ae k1
  have hle:=Eo (a:=b) (b:=a) (by omega)
  by_cases h1l:(aJ b).length=1
  ·obtain⟨e1,e2⟩:=Yle h1l
   have LJ:((aJ b).length:Int)=1:=by omega
   have GM:Sl h1 n1 v (dg [b]):=by rw[<-e1];exact nK
   simp(disch:=first|(simp;done)|omega|(simp only[bI,cC,bD];omega)|rfl) [c1,lv,h1l,lu]
   refine bP [(7,8),(30,48)] _ (PL h1 n1 n1 (aJ a) b) (aJ a).length ?_ (Yi0 xO GM (qH a) e2 (by omega) (by simp) (by simp) (by simp)) ?_
   ·refine⟨rfl,by simp,ab.refl.new _,0,List.replicate (aJ a).length 0,aW _,by simp,by simp,by simp[GF],by simp,?_,?_,hb⟩
    ·intro d hd
     rw[Io]at hd
     rw[hd.2];decide
    ·simp[val]
   rintro e r ⟨H,n2,W⟩ hr ⟨rfl,hn,hW,hK,rest,Q,hm,h8,h7,ak,hQ,dQ,he,wx⟩
   simp only at hn hW hK ak
   subst hn
   simp[hr]
   refine aA (CB (l:=Q) (Sl.row (e:=203) (rw:=true) (by omega) ak (by rw[bI];exact hQ) (by simp)) (by omega)) ?_
   rintro q2 h3 n3 k3 hq
   simp[h7,ad]
   have k4:ab h3 n3 (h3.set n3 (.cells [.int .u64 rest] 203 true)) (n3+1):=ab.refl.new _
   have hs5:Sl (h3.set n3 (.cells [.int .u64 rest] 203 true)) (n3+1) (.slice n3 0 1 (some 1) 1) (dg [rest]):=Sl.row (e:=203) (rw:=true) (L:=1) (uG n3) (by simp[dg]) (by simp) (by simp)
   refine aA (CB hs5 (by simp)) ?_
   rintro r2 h5 n5 k5 dK
   simp only[yk,mH]at he
   have GN:val B Q=a/b:=by
    rw[he,Nat.mul_add_div hb,zo wx];omega
   have CH:rest=a%b:=by
    rw[he,Nat.mul_add_mod,xI wx]
   rw[CA dQ,GN]at hq
   rw[Ygc (by omega),CH]at dK
   simp[az]
   exact⟨Jc k1.le hW,((k1.trans hK).trans k3).trans (k4.trans k5),_,_,⟨rfl,rfl⟩,(hq.ae k4).ae k5,dK⟩
  ·have CI:(aJ b).length≠0:=by
    rw[mG (by omega)];simp
   obtain⟨k,hk⟩:∃k,(aJ b).length=k+2:=⟨(aJ b).length-2,by omega⟩
   have LJ:¬(k:Int)+2=1:=by omega
   have gt:=cZ (l:=aJ b) (i:=k+1) (by omega)
   generalize (aJ b)[k+1]'(by omega)=bt at*
   have LK:bt<B:=(qH b).get gt
   have V4:¬bt=0:=by
    obtain⟨w1,w2⟩:=GL (k:=k+1) hk
    have:=(LL w1 w2).2
    rw[gt]at this
    have e:=pk this
    have hp:0<B^(k+1):=zm (by decide)
    have:=(Ik hp).2 (by rw[Nat.one_mul];exact w1)
    omega
   obtain⟨m1,m2,m3⟩:=Ykg V4 LK
   have hlz:=fun (h:T O) (N:Nat)=>Ydg (h:=h) (N:=N) (x:=bt) LK
   generalize hs:64-bh bt=s at*
   obtain⟨i1,o1,Oh,e1,w1,p1,p2,p3,p4⟩:=nK.at (fv gt)
   have t1:((k:Int)+2-1)=(k:Int)+1:=by omega
   rw[hk]at lv
   simp(disch:=omega) [c1,lv,p1,p3,p4,t1,LJ]
   refine aA (hlz _ _) ?_
   rintro _ h1 n1 k2 ⟨rfl,rfl,rfl⟩
   simp
   refine aA (Zpm nK (qH b) m3 (by omega)) ?_
   rintro vv h2 n2 k3 ⟨iv,ov,g1,g2,rfl,g3,g4,g5,g6⟩
   simp
   refine aA (CB (l:=ov) (Sl.row (e:=203) (rw:=true) g2 g3 (by rw[bI];exact g4) (by simp)) (by omega)) ?_
   rintro vy h3 n3 k4 hy
   rw[CA g5,g6,mH]at hy
   obtain⟨y1,v1,y2,y3⟩:=Yf4 hk gt m1 m2 (by omega)
   have ly:=Sl.len hy
   rw[bI,y1]at ly
   have ly:oD vy=some (k+2):=ly
   obtain⟨L,hL⟩:∃L,L+(k+2)=(aJ a).length+1:=⟨(aJ a).length+1-(k+2),by omega⟩
   have hLi:((aJ a).length:Int)-((k:Int)+2)=(L:Int)-1:=by omega
   simp[]
   refine aA (Zpm ((xO.ae k3).ae k4) (qH a) m3 (by omega)) ?_
   rintro uu h4 n4 k5 ⟨iu,ou,j1,j2,rfl,j3,j4,j5,j6⟩
   simp(disch:=first|(simp;done)|omega|(simp only[bI,cC,bD];omega)|rfl) [ly,lu,hLi,GF]
   have Bf:0<v1:=by omega
   have k6:ab h4 n4 (h4.set n4 (.cells (dg (List.replicate L 0)) 203 true)) (n4+1):=ab.refl.new _
   have hyv:v1*B^(k+1)<=val B (aJ (b*2^s)):=by
    obtain⟨w1,w2⟩:=GL (k:=k+1) y1
    have:=(LL w1 w2).2
    rw[y2]at this
    have e:=pk this
    rw[mH,e]
    exact Nat.div_mul_le_self _ _
   refine bP [(14,14),(80,95)] _ (PM N n3 h3 iu n4 (n4+1) ((aJ a).length+1) k (a*2^s) (aJ (b*2^s))) L ?_ (Yiz (cq:=some L) (v1:=v1) hy (by omega) (qH _) (by omega) (by rw[y2]) Bf j1 j2 (uG n4) (by omega) (by simp) (by simp) (by simp) ?_) ?_
   ·have bB:¬iu=n4:=by omega
    refine⟨rfl,rfl,(k5.trans k6),ou,List.replicate L 0,by simp,by simp[bB,j3],by simp,j4,by simp;omega,by simp,j5,?_,fun t Jd xe=>by omega,?_,?_⟩
    ·intro d hd
     rw[Io]at hd
     rw[hd.2];decide
    ·have V5:a≠0:=by omega
     have hla:(aJ a).length≠0:=by rw[mG V5];simp
     obtain⟨la1,LM⟩:∃x,(aJ a).length=x+1:=⟨(aJ a).length-1,by omega⟩
     have h_:=(GL LM).2
     rw[<-LM]at h_
     rw[mH]at j6
     exact Ybc (k:=k+1) j6 j4 (by omega) (by omega) h_ m3 y3 hyv
    ·simp[val,j6,mH]
   ·have:(aJ a).length+1-(k+2)=L:=by omega
    simp[this]
   rintro e r ⟨H,n5,W⟩ hr ⟨rfl,hn,hW,hK,U,Q,nZ,hU,hQ,lU,lQ,hm,dU,dQ,hz,cW,he⟩
   simp only at hn hW hK hU hQ
   subst hn
   simp only[yk,DC,Nat.one_mul]at he cW
   simp[hr]
   refine bP [(15,15),(97,130)] _ (PN n3 h3 iu n4 (n4+1) ((aJ a).length+1) (k+2) s U Q) (k+2) ?_ (Ygq (cu:=some ((aJ a).length+1)) (by omega) lU dU m3 j1 j2 (uG n4) (by omega) (by simp[hr]) (by simp[hr]) (by simp)) ?_
   ·refine⟨rfl,hW,hK,hQ,0,U,by omega,by simp,hU,lU,dU,fun _ _=>rfl,?_⟩
    obtain⟨x,hx⟩:∃x,val B U=2^s*x:=by
     refine⟨a-val B Q*b,?_⟩
     rw[mH]at he
     rw[Nat.mul_sub,iX _ a,<-he]
     have:val B Q*(b*2^s)=2^s*(val B Q*b):=by grind
     omega
    have rQ:dz U 0%2^s=0:=by
     have h1:=Cz (b:=B) (l:=U) (k:=0)
     have h2:=Et B U 1 (by omega)
     simp only[List.take_zero,val,DC,Nat.one_mul,xJ,Nat.pow_one]at h1 h2
     rw[h1,hx]at h2
     have h3:B=2^s*2^(64-s):=by rw[<-kQ,show s+(64-s)=64 by omega];rfl
     rw[h3,Dz]at h2
     have h4:dz U 0=2^s*(x-2^(64-s)*val (2^s*2^(64-s)) (U.drop 1)):=by rw[Nat.mul_sub];omega
     rw[h4,Nat.mul_mod_right]
    rw[rQ];simp[val]
   rintro e r2 ⟨H2,n5,W2⟩ dK ⟨rfl,ff,dX,eN,hQ2,i,o,hi,LH,ak,lo,dO,eA,uy⟩
   simp only at ff dX eN hQ2 ak
   subst ff
   have:i=k+2:=by omega
   subst this
   simp[dK,hr]
   refine aA (CB (l:=Q) (Sl.row (e:=203) (rw:=true) (uG n4) hQ2 (by rw[bI];omega) (by simp)) (by omega)) ?_
   rintro q2 h6 n6 k6 hq
   have V6:Sl h6 n6 (.slice iu 0 ((aJ a).length+1) (some ((aJ a).length+1)) 1) (dg o):=(Sl.row (h:=H2) (N:=n4+1) (by omega) ak (by rw[bI];exact lo) (by simp)).ae k6
   obtain⟨v',e1,e2⟩:=Dj (w:=[]) V6 (lo:=0) (hi:=k+2) (tH _) (by rw[bI];omega) none (some (.int .i64 ((k+2:Nat):Int))) (.inr ⟨rfl,rfl⟩) (.inl rfl)
   rw[show ((k+2:Nat):Int)=(k:Int)+2 by omega]at e1
   simp[dK,hr,AG,aC,e1]
   rw[yk,show (dg o).take (k+2)=dg (o.take (k+2)) by simp[dg]]at e2
   refine aA (CB (l:=o.take (k+2)) e2 (by rw[gm];omega)) ?_
   rintro r3 h7 n7 k7 LN
   rw[CA dQ]at hq
   rw[CA (fun d hd=>dO d (ym hd))]at LN
   rw[mH]at he cW
   have hbs:0<b*2^s:=zc hb (sN s)
   have GO:dz U (k+2)=0:=by simp[dz,hz (k+2) (by omega) (by omega)]
   have hUt:val B (U.take (k+2))=val B U:=by
    have h1:=Et B U (k+2) (by omega)
    rw[V7 (fun t t1 t2=>hz t (by omega) (by omega))]at h1
    omega
   have GN:val B Q=a/b:=by
    have h1:a*2^s/(b*2^s)=val B Q:=by
     rw[<-he,Nat.add_mul_div_right _ _ hbs,zo cW];omega
    rw[Oy _ _ (sN s)]at h1
    exact h1.symm
   have CH:val B (o.take (k+2))=a%b:=by
    have h1:a*2^s%(b*2^s)=val B U:=by
     rw[<-he,Nat.add_mul_mod_self_right,xI cW]
    rw[Ke,iX]at h1
    rw[GO,Nat.zero_mod,Nat.mul_zero,ka,hUt,<-h1]at uy
    exact Nat.eq_of_mul_eq_mul_left (sN s) uy
   rw[GN]at hq
   rw[CH]at LN
   simp[cA.cB,az]
   have kk:=(k1.trans k3).trans k4
   exact⟨Jc kk.le dX,((kk.trans eN).trans k6).trans k7,q2,r3,⟨rfl,rfl⟩,Sl.ae hq k7,LN⟩
variable {N n:Nat} {h:T O} {x:V} {z:Int}
def A.b163:av:=sr [ge 2 (.alloc [.int .i64 0,.aa] 101)]
 (sr [mv 3 0,ge 4 (.build [.int .i64 0,.aa] [(0,1,(tq 3))]),gn (.store 2 (tq 2) (tq 4))]
 (.ret))
def A.c163:A.F 163=some ⟨5,[.cell 2 (some 2)],A.b163⟩:=by kernel_rfl
def A.k163:=@A.kk 163 _ _ _ A.c163 rfl
def A.b167:av:=sr [bx 1 101 0,mc 2 0]
 (sr [fa 3 0 1,ld 4 3,ge 5 (.mn [.const (.int .i64 1),tq 4]),ge 6 (.mx [(.const (.int .i64 (-1))),tq 5]),mv 2 6]
 (.ret))
def A.c167:A.F 167=some ⟨7,[.tmp 2],A.b167⟩:=by kernel_rfl
def A.k167:=@A.kk 167 _ _ _ A.c167 rfl
def A.b236:av:=sr [bx 1 101 0,ge 2 (.alloc [.int .i64 0,.aa] 101)]
 (.seq (sr [fa 3 0 1,ld 4 3,bc 5 .lss 4 0]
 (cd 5
 (sr [lN 6 2 1,c1 7 189 6,gn (.store 2 (tq 2) (tq 7))]
 (.ret))
 (.skip)))
 (sr [lN 8 2 1,gn (.store 2 (tq 2) (tq 8))]
 (.ret)))
def A.c236:A.F 236=some ⟨9,[.cell 2 (some 2)],A.b236⟩:=by kernel_rfl
def A.k236:=@A.kk 236 _ _ _ A.c236 rfl
def A.b203:av:=sr [ge 2 (.ba (.const (.int .u64 0)))]
 (.seq (sr [mv 3 0,bc 4 .lss 3 0]
 (cd 4
 (sr [mv 5 0,ge 6 (.un .neg (tq 5)),ge 7 (.bj .u64 (tq 6)),mv 2 7]
 (.ret))
 (.skip)))
 (sr [mv 8 0,ge 9 (.bj .u64 (tq 8)),mv 2 9]
 (.ret)))
def A.c203:A.F 203=some ⟨10,[.tmp 2],A.b203⟩:=by kernel_rfl
def A.k203:=@A.kk 203 _ _ _ A.c203 rfl
def A.b189:av:=sr [bx 1 101 0,ge 2 (.alloc [.int .i64 0,.aa] 101)]
 (.seq (sr [fa 5 1 1,ld 6 5,ge 7 (.bin .eql (.aM .slice) true (tq 6) (.const .aa)),mv 8 7,gy 9 8 (.eI 0 (tq 1)),gy 10 8 (.load none (tq 9)),gy 11 8 (.bin .neq (.aM .int) true (tq 10) (.const (.int .i64 (-9223372036854775808)))),pf 12 8 11]
 (cd 12
 (sr [fa 13 0 1,ld 14 13,ge 15 (.un .neg (tq 14)),ge 16 (.build [.int .i64 0,.aa] [(0,1,(tq 15))]),gn (.store 2 (tq 2) (tq 16))]
 (.ret))
 (.skip)))
 (sr [lN 18 2 1,c1 19 196 18,mv 17 19,xt 20 17 0,xt 21 17 1,mv 3 20,mv 4 21]
 (sr [mv 22 3,ge 23 (.un .not (tq 22)),mv 24 4,c2 25 197 23 24,gn (.store 2 (tq 2) (tq 25))]
 (.ret))))
def A.c189:A.F 189=some ⟨26,[.cell 2 (some 2)],A.b189⟩:=by kernel_rfl
def A.k189:=@A.kk 189 _ _ _ A.c189 rfl
def A.b196:av:=sr [bx 1 101 0,ge 2 (.ba (.const (.bool false))),mN 3]
 (.seq (.block 0 (sr [fa 5 1 1,ld 6 5,ge 7 (.bin .neq (.aM .slice) true (tq 6) (.const .aa)),mv 4 7]
 (cd 4
 (.seq (.aX [fa 8 0 1,ld 9 8,bc 10 .lss 9 0,fa 11 1 1,ld 12 11,mv 2 10,mv 3 12] [0,1,3,0,8,7,63])
 (.ret))
 (sr [fa 14 0 1,ld 15 14,ei 16 15 0,mv 13 16]
 (cd 13
 (sr [ge 2 (.ba (.const (.bool false))),mN 3]
 (.ret))
 (.skip))))))
 (.seq (.aX [fa 17 0 1,ld 18 17,bc 19 .lss 18 0,fa 20 0 1,ld 21 20,c1 22 203 21,ge 23 (.aV 203 1 1 [.int .u64 0] [(0,1,(tq 22))]),mv 2 19,mv 3 23] [0,1,3,0,8,24,56,63,255])
 (.ret)))
def A.c196:A.F 196=some ⟨24,[.tmp 2,.tmp 3],A.b196⟩:=by kernel_rfl
def A.k196:=@A.kk 196 _ _ _ A.c196 rfl
def A.b197:av:=sr [ge 4 (.alloc [.int .i64 0,.aa] 101)]
 (.seq (.block 0 (sr [mv 6 1,ln 7 6,ei 8 7 0,mv 5 8]
 (cd 5
 (sr [ge 9 (.build [.int .i64 0,.aa] []),gn (.store 2 (tq 4) (tq 9))]
 (.ret))
 (sr [mv 11 1,ln 12 11,ei 13 12 1,mv 14 13,mg 15 1 14,gy 16 14 (.aU 1 (tq 15) (kq 0)),gy 17 14 (.load none (tq 16)),gy 18 14 (.bin .leq (.node []) false (tq 17) (.const (.int .u64 9223372036854775807))),pf 19 14 18,mv 20 19,mg 21 0 20,pf 22 20 21,mv 10 22]
 (cd 10
 (sr [mv 23 1,ge 24 (.aU 1 (tq 23) (kq 0)),ld 25 24,ge 26 (.bj .i64 (tq 25)),ge 27 (.un .neg (tq 26)),ge 28 (.build [.int .i64 0,.aa] [(0,1,(tq 27))]),gn (.store 2 (tq 4) (tq 28))]
 (.ret))
 (sr [mv 30 1,ln 31 30,ei 32 31 1,mv 33 32,mg 34 1 33,gy 35 33 (.aU 1 (tq 34) (kq 0)),gy 36 33 (.load none (tq 35)),gy 37 33 (.bin .leq (.node []) false (tq 36) (.const (.int .u64 9223372036854775807))),pf 38 33 37,mv 29 38]
 (cd 29
 (sr [mv 39 1,ge 40 (.aU 1 (tq 39) (kq 0)),ld 41 40,ge 42 (.bj .i64 (tq 41)),ge 43 (.build [.int .i64 0,.aa] [(0,1,(tq 42))]),gn (.store 2 (tq 4) (tq 43))]
 (.ret))
 (sr [mv 45 0,mv 44 45]
 (cd 44
 (sr [mv 46 1,ge 47 (.build [.int .i64 0,.aa] [(0,1,(.const (.int .i64 (-1)))),(1,1,(tq 46))]),gn (.store 2 (tq 4) (tq 47))]
 (.ret))
 (.skip))))))))))
 (sr [mv 48 1,ge 49 (.build [.int .i64 0,.aa] [(0,1,(kq 1)),(1,1,(tq 48))]),gn (.store 2 (tq 4) (tq 49))]
 (.ret)))
def A.c197:A.F 197=some ⟨50,[.cell 4 (some 2)],A.b197⟩:=by kernel_rfl
def A.k197:=@A.kk 197 _ _ _ A.c197 rfl
def xV(z:Int):Int:=if z<0 then -1 else 1
def In(h:T O)(N:Nat)(x:V)(z:Int):Prop:=
 (x=.agg [.int .i64 z,.aa]/\ -9223372036854775808<=z/\z<9223372036854775808)\/
 ∃i o l c,x=.agg [.int .i64 (xV z),.slice i o l c 1]/\Wn h N (.slice i o l c 1) z.natAbs/\9223372036854775808<=z.natAbs
def In.ae{h':T O}{N':Nat}(s:In h N x z)(k:ab h N h' N'):In h' N' x z:=by
 rcases s with s|⟨i,o,l,c,s1,s2,s3⟩
 ·exact .inl s
 ·exact .inr ⟨i,o,l,c,s1,s2.ae k,s3⟩
def In.small(h1: -9223372036854775808<=z)(h2:z<9223372036854775808):In h N (.agg [.int .i64 z,.aa]) z:=.inl ⟨rfl,h1,h2⟩
def In.cells(s:In h N x z):∃n u,x=.agg [.int .i64 n,u]/\V.one u=true:=by
 rcases s with⟨rfl,_⟩|⟨i,o,l,c,rfl,_⟩
 ·exact⟨_,_,rfl,rfl⟩
 ·exact⟨_,_,rfl,rfl⟩
def In.nu{n:Int}{u:V}(s:In h N (.agg [.int .i64 n,u]) z):∀x∈[V.int .i64 n,u],∀m,x≠.int .u64 m:=by
 intro x hx m hc
 simp only[kv,List.not_mem_nil,or_false]at hx
 rcases hx with rfl|rfl
 ·cases hc
 ·subst hc
  rcases s with⟨e,_⟩|⟨_,_,_,_,e,_⟩
  ·simp at e
  ·simp at e
def aP{h1:T O}{n1:Nat}(k:ab h n h1 n1)(o:O):ab h n (h1.set n1 o) (n1+1):=(k.set k.le).up (uz _)
def wl(z:Int):Nat:=(aJ z.natAbs).length
def GP:Fn A.C 163 [.int .i64 z] h N (fun v _ _=>v=.agg [.int .i64 z,.aa]):=by
 intro w
 rw[aO,A.k163 (by simp)]
 simp[A.b163,aS,aE,ad,az]
 exact(((ab.refl.set (aW N)).set (aW N)).up (uz N))
def dW(z:Int):Int:=if z<0 then -1 else if z=0 then 0 else 1
def GQ(hx:In h N x z):Fn A.C 167 [x] h N (fun v _ _=>v=.int .i64 (dW z)):=by
 intro w
 rw[aO,A.k167 (by simp)]
 rcases hx with⟨rfl,_⟩|⟨i,o,l,c,rfl,_,hz⟩
 ·obtain h1|h1|h1:z<0\/z=0\/0<z:=by omega
  ·have e1:z<1:=by omega
   have e2:¬ -1<z:=by omega
   simp[A.b167,aS,az,yu,qy,BT,xK,AO,yr,h1,e1,e2,dW]
   exact aP ab.refl _
  ·subst h1
   simp[A.b167,aS,az,yu,qy,BT,xK,AO,yr,dW]
   exact aP ab.refl _
  ·have e1:¬z<1:=by omega
   have e2:¬z<0:=by omega
   have e3:¬z=0:=by omega
   simp[A.b167,aS,az,yu,qy,BT,xK,AO,yr,e1,e2,e3,dW]
   exact aP ab.refl _
 ·by_cases h1:z<0
  ·simp[A.b167,aS,az,yu,qy,BT,xK,AO,yr,xV,dW,h1]
   exact aP ab.refl _
  ·have e3:¬z=0:=by omega
   simp[A.b167,aS,az,yu,qy,BT,xK,AO,yr,xV,dW,h1,e3]
   exact aP ab.refl _
def V8(hz: -9223372036854775808<=z)(hm:z<9223372036854775808){st:St}:A.C.call (.func 203 [] []) [.int .i64 z] st=some (.int .u64 (z.natAbs:Nat),st):=by
 apply Call.eq
 rw[aO,A.k203 (by simp)]
 by_cases e1:z<0
 ·have e2:bu .u64 (IntKind.wrap .i64 (0-z))=(z.natAbs:Nat):=by
   rw[I8]
   by_cases e3:z= -9223372036854775808
   ·subst e3;decide
   ·rw[Kl (by omega) (by omega)];omega
  rw[Int.zero_sub]at e2
  simp[A.b203,e1,e2]
 ·have e2:bu .u64 z=(z.natAbs:Nat):=by rw[Ej (by omega) (by omega)];omega
  simp[A.b203,e1,e2]
def GR(h:n<B)(h0:n≠0):aJ n=[n]:=by
 rw[mG h0,zo h,qG,xI h]
def CJ(hx:In h N x z):Fn A.C 196 [x] h N (fun v h' n'=>∃u,v=.bg [.bool (decide (z<0)),u]/\Wn h' n' u z.natAbs):=by
 intro w
 rw[aO,A.k196 (by simp)]
 rcases hx with⟨rfl,h1,h2⟩|⟨i,o,l,c,rfl,hw,hz⟩
 ·by_cases h0:z=0
  ·subst h0
   simp[A.b196,aS,aI,az]
   refine⟨aP ab.refl _,?_⟩
   unfold Wn;rw[qG];exact Sl.nil
  ·have hs:=fun st=>V8 h1 h2 (st:=st)
   have d1:¬N=N+1:=by omega
   simp[A.b196,aS,ad,aI,h0,hs,az,cA.cB]
   refine⟨aP (aP ab.refl _) _,?_⟩
   unfold Wn
   rw[GR (by unfold B;omega) (by omega)]
   exact Sl.row (e:=203) (rw:=true) (L:=1) (by omega) (by simp[dg]) (by simp) (by simp)
 ·have e1:(xV z<0)=(z<0):=by unfold xV;split<;>simp_all
  simp[A.b196,aS,aI,az,e1,cA.cB]
  refine⟨aP ab.refl _,hw.ae (aP ab.refl _)⟩
def Eu{u:V}{b:Bool}(hu:Wn h N u n)(hl:(aJ n).length<1099511627776):Fn A.C 197 [.bool b,u] h N (fun v h' n'=>In h' n' v (if b=true then -(n:Int) else n)):=by
 intro w
 have lu:=hu.len
 rw[bI]at lu
 rw[aO,A.k197 (by simp)]
 have kk:∀o1 o2:O,ab h N ((h.set N o1).set N o2) (N+1):=fun o1 o2=>(aP ab.refl o1).set (aW N)
 by_cases h0:n=0
 ·subst h0
  rw[qG]at lu
  simp[A.b197,lu,aS,aE,ad,az]
  refine⟨kk _ _,?_⟩
  have:(if b=true then -((0:Nat):Int) else ((0:Nat):Int))=0:=by split<;>rfl
  exact In.small (by omega) (by omega)
 ·by_cases h1:n<18446744073709551616
  ·rw[GR h1 h0]at lu
   obtain⟨i,o,c,e,rw,p1,p2,p3,p4⟩:=hu.at (fv (l:=aJ n) (j:=0) (n:=n) (by rw[GR h1 h0];rfl))
   rw[ka]at p4
   have lu:oD u=some 1:=lu
   have bB:¬i=N:=by omega
   by_cases h2:n<=9223372036854775807
   ·have lO:(n:Int)<=9223372036854775807:=by omega
    have w1:bu .i64 (n:Int)=n:=cF (by omega) (by omega)
    have w2:IntKind.wrap .i64 (-(n:Int))= -(n:Int):=Kl (by omega) (by omega)
    cases b
    ·simp[A.b197,lu,p1,p3,p4,bB,lO,w1,aS,aE,ad,az]
     exact⟨kk _ _,In.small (by omega) (by omega)⟩
    ·simp[A.b197,lu,p1,p3,p4,bB,lO,w1,w2,aS,aE,ad,az]
     exact⟨kk _ _,In.small (by omega) (by omega)⟩
   ·have lO:¬(n:Int)<=9223372036854775807:=by omega
    obtain⟨i2,o2,l2,c2,rfl⟩:∃i o l c,u=.slice i o l c 1:=by
     rcases hu with⟨hu,_⟩|⟨i,o,cp,c,e,rw,hu,_⟩
     ·rw[GR h1 h0]at hu;simp[dg]at hu
     ·exact⟨_,_,_,_,hu⟩
    cases b
    ·simp[A.b197,lu,p1,p3,p4,bB,lO,aS,aE,ad,az]
     refine⟨kk _ _,.inr ⟨i2,o2,l2,c2,?_,hu.ae (kk _ _),?_⟩⟩
     ·simp[xV]
     ·omega
    ·simp[A.b197,lu,p1,p3,p4,bB,lO,aS,aE,ad,az]
     refine⟨kk _ _,.inr ⟨i2,o2,l2,c2,?_,?_,?_⟩⟩
     ·simp[xV];omega
     ·simpa using hu.ae (kk _ _)
     ·omega
  ·have D4:2<=(aJ n).length:=by
    rw[mG h0,mG (by unfold B;omega)];simp
   have c0:¬((aJ n).length:Int)=0:=by omega
   have c1:¬((aJ n).length:Int)=1:=by omega
   have c2:¬(aJ n).length=1:=by omega
   have c3:¬aJ n=[]:=by intro h;rw[h]at D4;simp at D4
   rcases hu with⟨hu,_⟩|⟨i,o,cp,c,e,rw,rfl,hu⟩
   ·exfalso
    have:=congrArg List.length hu
    rw[bI]at this
    simp at this
    exact c3 this
   have hw:Wn h N (.slice i o (dg (aJ n)).length cp 1) n:=.inr ⟨i,o,cp,c,e,rw,rfl,hu⟩
   rw[bI]at hw
   cases b
   ·simp[A.b197,c1,c3,aS,aE,ad,az]
    refine⟨kk _ _,.inr ⟨i,o,(aJ n).length,cp,?_,hw.ae (kk _ _),?_⟩⟩
    ·simp[xV]
    ·omega
   ·simp[A.b197,c1,c3,aS,aE,ad,az]
    refine⟨kk _ _,.inr ⟨i,o,(aJ n).length,cp,?_,?_,?_⟩⟩
    ·simp[xV];omega
    ·simpa using hw.ae (kk _ _)
    ·omega
def Sl.aK{v:V}{l:List Nat}{i:Nat}{c0 c1:List V}{e0 e1:TypeId}{w0 w1:Bool}(s:Sl h N v (dg l))(hr:h.get i=some (.cells c0 e0 w0))(hn:∀x∈c0,∀n,x≠.int .u64 n)(hc:c1.length=c0.length):Sl (h.set i (.cells c1 e1 w1)) N v (dg l):=by
 rcases s with s|⟨i',o,cp,c,e,rw,rfl,q1,q2,q3,q4,q5⟩
 ·exact .inl s
 ·by_cases hi:i'=i
  ·subst hi
   rw[hr]at q2
   simp only[al,O.cells.injEq]at q2
   obtain⟨rfl,rfl,rfl⟩:=q2
   cases l with
   |nil=>
    refine .inr ⟨i',o,cp,c1,e1,w1,rfl,q1,by rw[T.ag,aF rfl],?_,by simpa[hc]using q4,q5⟩
    intro j hj
    simp[dg]at hj
   |cons d l=>
    exfalso
    have:=q3 0 (by simp[dg])
    have hm:=cm (l:=c0) (i:=o+0) (a:=.int .u64 d) (by rw[this];simp[dg])
    exact hn _ hm _ rfl
  ·exact .inr ⟨i',o,cp,c,e,rw,rfl,q1,by rw[T.ag,ar hi];exact q2,q3,q4,q5⟩
def In.aK{i:Nat}{c0 c1:List V}{e0 e1:TypeId}{w0 w1:Bool}(s:In h N x z)(hr:h.get i=some (.cells c0 e0 w0))(hn:∀x∈c0,∀n,x≠.int .u64 n)(hc:c1.length=c0.length):In (h.set i (.cells c1 e1 w1)) N x z:=by
 rcases s with s|⟨i',o,l,c,s1,s2,s3⟩
 ·exact .inl s
 ·exact .inr ⟨i',o,l,c,s1,Sl.aK s2 hr hn hc,s3⟩
def Je(hx:In h N x z)(hl:wl z<500000000000):Fn A.C 189 [x] h N (fun v h' n'=>In h' n' v (-z)):=by
 intro w
 rw[aO,A.k189 (by simp)]
 have rest:∀{x:V},In h N x z->∀(h1:T O) (N1:Nat),ab h N h1 N1->Fn A.C 196 [x] h1 N1 (fun v h' n'=>∃u,v=.bg [.bool (decide (z<0)),u]/\Wn h' n' u z.natAbs):=fun hx h1 N1 k=>CJ (hx.ae k)
 have fin:∀{v h' n'},In h' n' v (if (!decide (z<0))=true then -(z.natAbs:Int) else z.natAbs)->In h' n' v (-z):=fun {v h' n'} q=>by
  have e:(if (!decide (z<0))=true then -(z.natAbs:Int) else (z.natAbs:Int))= -z:=by
   by_cases h:z<0<;>simp[h]<;>omega
  rw[e]at q;exact q
 by_cases hz:x=.agg [.int .i64 z,.aa]/\z≠ -9223372036854775808/\ -9223372036854775808<=z/\z<9223372036854775808
 ·obtain⟨rfl,h0,h1,h2⟩:=hz
  have w2:IntKind.wrap .i64 (-z)= -z:=Kl (by omega) (by omega)
  simp[A.b189,aS,aE,ad,aI,h0,w2,az]
  exact⟨(aP (aP ab.refl _) _).set (by omega),In.small (by omega) (by omega)⟩
 ·rcases id hx with⟨rfl,h1,h2⟩|⟨i,o,l,c,rfl,_⟩
  ·have h0:z= -9223372036854775808:=by
    apply Decidable.byContradiction
    intro hc
    exact hz ⟨rfl,hc,h1,h2⟩
   have hp:=rest hx _ _ (aP (aP ab.refl (.cells [.int .i64 z,.aa] 101 true)) (.cells [.int .i64 0,.aa] 101 true))
   subst h0
   simp[A.b189,aS,aE,aI]
   refine aA hp ?_
   rintro _ h3 n3 k3 ⟨u,rfl,hu⟩
   have vt:=k3.le
   have g0:=k3.get (N+1) (by omega)
   simp at g0
   simp[]
   refine aA (Eu hu (by unfold wl at hl;omega)) ?_
   rintro v h4 n4 k4 hv
   have tm:=k4.le
   have g1:=(k4.get (N+1) (by omega)).trans g0
   obtain⟨n5,u5,rfl,jl⟩:=hv.cells
   unfold V.one at jl
   simp[g1,aS,aE,ad,bO,az,jl]
   have kk:=(((aP (aP ab.refl _) _).trans k3).trans k4).set (h:=h) (n:=N) (i:=N+1) (o:=.cells [.int .i64 n5,u5] 101 true) (by omega)
   exact⟨kk,(fin hv).aK g1 (by simp) rfl⟩
  ·have hp:=rest hx _ _ (aP (aP ab.refl (.cells [.int .i64 (xV z),.slice i o l c 1] 101 true)) (.cells [.int .i64 0,.aa] 101 true))
   simp[A.b189,aS,aE,aI]
   refine aA hp ?_
   rintro _ h3 n3 k3 ⟨u,rfl,hu⟩
   have vt:=k3.le
   have g0:=k3.get (N+1) (by omega)
   simp at g0
   simp[]
   refine aA (Eu hu (by unfold wl at hl;omega)) ?_
   rintro v h4 n4 k4 hv
   have tm:=k4.le
   have g1:=(k4.get (N+1) (by omega)).trans g0
   obtain⟨n5,u5,rfl,jl⟩:=hv.cells
   unfold V.one at jl
   simp[g1,aS,aE,ad,bO,az,jl]
   have kk:=(((aP (aP ab.refl _) _).trans k3).trans k4).set (h:=h) (n:=N) (i:=N+1) (o:=.cells [.int .i64 n5,u5] 101 true) (by omega)
   exact⟨kk,(fin hv).aK g1 (by simp) rfl⟩
end Go.Mx
