/-
  num.addWords: adds words.
-/
import Derived.Test.YtlbophlgohokkaaGreatDoorRcI
set_option linter.all false
namespace Go.Mx
open Go Go.Proofs
set_option maxHeartbeats 2000000
set_option maxRecDepth 1000000
def A.zaP:aq:=sr [bi 23 .lss 22 21]
 (.seq (cd 23
 (.skip)
 (.exit 0))
 (.seq (.block 1 (sr [mv 24 22,mv 7 24]
 (sr [⟨(some 8),.aZ (.const (.int .u64 0)),none⟩]
 (.seq (sr [mv 25 7,mv 26 1,ln 27 26,bi 28 .lss 25 27]
 (cd 28
 (.aL [mv 29 1,mv 30 7,ia 31 1 29 30,ld 32 31,mv 8 32])
 (.skip)))
 (.aL [mv 34 5,mv 35 7,mv 36 0,mv 37 7,ia 38 1 36 37,ld 39 38,mv 40 8,mv 41 6,⟨(some 42),.ext .eB [(.tmp 39),(.tmp 40),(.tmp 41)],none⟩,mv 33 42,xt 43 33 0,xt 44 33 1,ia 45 1 34 35,so 45 43,mv 6 44])))))
 (.aL [bc 46 .add 22 1,mv 22 46])))
def A.b249:aq:=sr [mN 4]
 (.seq (sr [mv 9 0,ln 10 9,mv 11 1,ln 12 11,bi 13 .lss 10 12]
 (cd 13
 (.aL [mv 14 1,mv 15 0,mv 0 14,mv 1 15])
 (.skip)))
 (sr [mv 16 0,ln 17 16,bc 18 .add 17 1,⟨(some 19),.bD 214 1 8 [(.int .u64 0)] (.tmp 18) (.tmp 18),none⟩,mv 5 19]
 (sr [⟨(some 6),.aZ (.const (.int .u64 0)),none⟩]
 (.seq (sr [mv 20 0,ln 21 20,mc 22 0]
 (.block 0 (.loop A.zaP)))
 (sr [mv 47 5,mv 48 0,ln 49 48,mv 50 6,ia 51 1 47 49,so 51 50]
 (sr [mv 52 5,c1 53 263 52,mv 4 53]
 (.ret)))))))
theorem A.c249:A.F 249=some ⟨54,[.tmp 4],A.b249⟩:=by kernel_rfl
def A.k249:=@A.kk 249 _ _ _ A.c249 rfl
structure V5 (h:T O) (N x y k:Nat) (o:List Nat) (c:Nat) (r:T V) (st:St):Prop where
 hk:k<=(aD x).length
 r22:r.get 22=some (.int .i64 k)
 r6:r.get 6=some (.int .u64 c)
 n:st.n=N+1
 w:au N st.w=[]
 ad:ab h N st.h (N+1)
 row:st.h.get N=some (.cells (dg o) 214 true)
 len:o.length=(aD x).length+1
 ex:∃d,d.length=k/\o=d++List.replicate ((aD x).length+1-k) 0/\val B d+B^k*c=val B ((aD x).take k)+val B ((aD y).take k)/\c<=1/\Dg d
def V6(h:T O)(N x y m:Nat)(r:T V)(st:St):Prop:=∃k o c,m=(aD x).length-k/\V5 h N x y k o c r st
def V7(h:T O)(N x y:Nat)(r:T V)(st:St):Prop:=∃o c,V5 h N x y (aD x).length o c r st
theorem V8{x y o d:List Nat}{k c xk:Nat}(hx:x[k]?=some xk)(d1:d.length=k)(d2:o=d++List.replicate (x.length+1-k) 0)(d3:val B d+B^k*c=val B (x.take k)+val B (y.take k))(d4:c<=1)(d5:Dg d)(gx:Dg x)(gy:Dg y):
  (d++[bz (xk+dz y k+c)]).length=k+1/\o.set k (bz (xk+dz y k+c))=(d++[bz (xk+dz y k+c)])++List.replicate (x.length+1-(k+1)) 0/\val B (d++[bz (xk+dz y k+c)])+B^(k+1)*bX (xk+dz y k+c)=val B (x.take (k+1))+val B (y.take (k+1))/\bX (xk+dz y k+c)<=1/\Dg (d++[bz (xk+dz y k+c)]):=by
 have hk:k<x.length:=by
  apply oF;intro hc;rw[eG hc]at hx;cases hx
 have hxk:=gx.get hx
 have hyk:=VV gy k
 have hm:=pG (xk+dz y k+c) B
 refine⟨by simp[d1],?_,?_,?_,?_⟩
 ·rw[d2,show x.length+1-k=(x.length-k)+1 by omega,Qe d1,show x.length+1-(k+1)=x.length-k by omega]
 ·rw[KM,yN,yN,d1,show dz x k=xk by simp[dz,hx]]
  have e1:bz (xk+dz y k+c)=(xk+dz y k+c)%B:=rfl
  have e2:bX (xk+dz y k+c)=(xk+dz y k+c)/B:=rfl
  rw[e1,e2,fJ]
  generalize (xk+dz y k+c)%B=lo at*
  generalize (xk+dz y k+c)/B=hi at*
  generalize B^k=p at*
  have:p*(B*hi+lo)=p*(xk+dz y k+c):=by rw[hm]
  grind
 ·show (xk+dz y k+c)/B<=1
  unfold B at*;omega
 ·intro e he
  rcases pw.1 he with he|he
  ·exact d5 e he
  ·simp at he;subst he;exact jd _ (by decide)
theorem V9{x y:Nat}{o d:List Nat}{c:Nat}(hl:(aD y).length<=(aD x).length)(d1:d.length=(aD x).length)(d2:o=d++List.replicate ((aD x).length+1-(aD x).length) 0)(d3:val B d+B^(aD x).length*c=val B ((aD x).take (aD x).length)+val B ((aD y).take (aD x).length))(d4:c<=1)(d5:Dg d):n8 (o.set (aD x).length c)=aD (x+y):=by
 rw[d2,show (aD x).length+1-(aD x).length=0+1 by omega,Qe d1]
 simp only[List.replicate_zero,sJ]
 rw[yO,KM,d1,d3,fN (aV _),fN hl,j9,j9]
 intro e he
 rcases pw.1 he with he|he
 ·exact d5 e he
 ·simp at he;subst he;unfold B;omega
theorem Zva{h:T O}{N:Nat}{vx vy:V}{x y:Nat}(hx:Wn h N vx x)(hy:Wn h N vy y)(yB:(aD x).length<1099511627776)(Gw:(aD y).length<1099511627776):Fn A.C 249 [vx,vy] h N (fun v' h' N'=>Wn h' N' v' (x+y)):=by
 intro w
 have lx:=hx.len
 have ly:=hy.len
 rw[bC]at lx ly
 rw[aP,A.k249 (by simp)]
 by_cases hl:(aD x).length<(aD y).length
 ·simp(disch:=first|(simp;done)|omega|(simp only[bC,cl,bq];omega)|rfl) [A.b249,lx,ly,hl]
  refine bN [(6,8),(22,46)] (fun e r st=>e=.exit 0/\V7 h N y x r st) (V6 h N y x) (aD y).length ?_ ?_ ?_
  ·refine⟨0,List.replicate ((aD y).length+1) 0,0,by omega,⟨by omega,by simp,by simp,by simp,by simp,ab.refl.set (aV _) |>.up (by omega),by simp[Cm],by simp,[],by simp,by simp,by simp[val],by decide,by simp[Dg]⟩⟩
  ·rintro m r ⟨H,n1,W⟩ hr hf ⟨k,o,c,rfl,hk,kW,h6,hn,hW,hK,hN,ho,d,hd⟩
   simp only at hn hW hK hN
   subst hn
   rw[bn]
   by_cases aB:k<(aD y).length
   ·obtain⟨i1,o1,c1,e1,w1,p1,p2,p3,p4⟩:=hy.at (eP (cW aB))
    have p3:=(hK.get _ p2).trans p3
    obtain⟨d1,d2,d3,d4,d5⟩:=hd
    have fz:=V8 (x:=aD y) (y:=aD x) (cW aB) d1 d2 d3 d4 d5 (nH y) (nH x)
    by_cases mK:k<(aD x).length
    ·obtain⟨i2,o2,c2,e2,w2,q1,q2,q3,q4⟩:=hx.at (eP (cW mK))
     have q3:=(hK.get _ q2).trans q3
     have hz:dz (aD x) k=(aD x)[k]:=by simp[dz,cW mK]
     rw[hz]at fz
     simp(disch:=first|(simp;done)|omega|(simp only[bC,cl,bq];omega)|rfl) [A.zaP,hr,kW,h6,aB,mK,ly,lx,p1,p3,p4,q1,q3,q4,hN,mO,hf]
     exact⟨_,by omega,k+1,_,_,rfl,⟨by omega,by simp,by simp,rfl,by simp[hW],hK.set (aV _),by simp,by simp[ho],_,fz⟩⟩
    ·have hz:dz (aD x) k=0:=by simp[dz,eG (oo.1 mK)]
     rw[hz]at fz
     simp(disch:=first|(simp;done)|omega|(simp only[bC,cl,bq];omega)|rfl) [A.zaP,hr,kW,h6,aB,mK,ly,lx,p1,p3,p4,hN,mO,hf]
     exact⟨_,by omega,k+1,_,_,rfl,⟨by omega,by simp,by simp,rfl,by simp[hW],hK.set (aV _),by simp,by simp[ho],_,fz⟩⟩
   ·have He:k=(aD y).length:=by omega
    subst He
    simp[A.zaP,hr,kW,hf]
    exact⟨o,c,⟨by omega,by simp[kW],by simp[h6],rfl,by simp[hW],hK,hN,ho,d,hd⟩⟩
  ·rintro _ r ⟨H,n1,W⟩ hr ⟨rfl,o,c,hk,kW,h6,hn,hW,hK,hN,ho,d,d1,d2,d3,d4,d5⟩
   simp only at hn hW hK hN
   subst hn
   simp(disch:=first|(simp;done)|omega|(simp only[bC,cl,bq];omega)|rfl) [hr,h6,ly,hN,mO]
   refine ax (yP (l:=o.set (aD y).length c) (Sl.row (e:=214) (rw:=true) (by omega) (by simp) (by simp[ho]) (by simp)) (by simp[ho];omega)) ?_
   intro v' h' n' ga hs
   simp[aA]
   refine⟨hW,(hK.set (aV _)).trans ga,?_⟩
   rw[V9 (by omega) d1 d2 d3 d4 d5]at hs
   exact(Nat.add_comm y x▸hs)
 ·simp(disch:=first|(simp;done)|omega|(simp only[bC,cl,bq];omega)|rfl) [A.b249,lx,ly,hl]
  refine bN [(6,8),(22,46)] (fun e r st=>e=.exit 0/\V7 h N x y r st) (V6 h N x y) (aD x).length ?_ ?_ ?_
  ·refine⟨0,List.replicate ((aD x).length+1) 0,0,by omega,⟨by omega,by simp,by simp,by simp,by simp,ab.refl.set (aV _) |>.up (by omega),by simp[Cm],by simp,[],by simp,by simp,by simp[val],by decide,by simp[Dg]⟩⟩
  ·rintro m r ⟨H,n1,W⟩ hr hf ⟨k,o,c,rfl,hk,kW,h6,hn,hW,hK,hN,ho,d,hd⟩
   simp only at hn hW hK hN
   subst hn
   rw[bn]
   by_cases aB:k<(aD x).length
   ·obtain⟨i1,o1,c1,e1,w1,p1,p2,p3,p4⟩:=hx.at (eP (cW aB))
    have p3:=(hK.get _ p2).trans p3
    obtain⟨d1,d2,d3,d4,d5⟩:=hd
    have fz:=V8 (x:=aD x) (y:=aD y) (cW aB) d1 d2 d3 d4 d5 (nH x) (nH y)
    by_cases mK:k<(aD y).length
    ·obtain⟨i2,o2,c2,e2,w2,q1,q2,q3,q4⟩:=hy.at (eP (cW mK))
     have q3:=(hK.get _ q2).trans q3
     have hz:dz (aD y) k=(aD y)[k]:=by simp[dz,cW mK]
     rw[hz]at fz
     simp(disch:=first|(simp;done)|omega|(simp only[bC,cl,bq];omega)|rfl) [A.zaP,hr,kW,h6,aB,mK,lx,ly,p1,p3,p4,q1,q3,q4,hN,mO,hf]
     exact⟨_,by omega,k+1,_,_,rfl,⟨by omega,by simp,by simp,rfl,by simp[hW],hK.set (aV _),by simp,by simp[ho],_,fz⟩⟩
    ·have hz:dz (aD y) k=0:=by simp[dz,eG (oo.1 mK)]
     rw[hz]at fz
     simp(disch:=first|(simp;done)|omega|(simp only[bC,cl,bq];omega)|rfl) [A.zaP,hr,kW,h6,aB,mK,lx,ly,p1,p3,p4,hN,mO,hf]
     exact⟨_,by omega,k+1,_,_,rfl,⟨by omega,by simp,by simp,rfl,by simp[hW],hK.set (aV _),by simp,by simp[ho],_,fz⟩⟩
   ·have He:k=(aD x).length:=by omega
    subst He
    simp[A.zaP,hr,kW,hf]
    exact⟨o,c,⟨by omega,by simp[kW],by simp[h6],rfl,by simp[hW],hK,hN,ho,d,hd⟩⟩
  ·rintro _ r ⟨H,n1,W⟩ hr ⟨rfl,o,c,hk,kW,h6,hn,hW,hK,hN,ho,d,d1,d2,d3,d4,d5⟩
   simp only at hn hW hK hN
   subst hn
   simp(disch:=first|(simp;done)|omega|(simp only[bC,cl,bq];omega)|rfl) [hr,h6,lx,hN,mO]
   refine ax (yP (l:=o.set (aD x).length c) (Sl.row (e:=214) (rw:=true) (by omega) (by simp) (by simp[ho]) (by simp)) (by simp[ho];omega)) ?_
   intro v' h' n' ga hs
   simp[aA]
   refine⟨hW,(hK.set (aV _)).trans ga,?_⟩
   rw[V9 (by omega) d1 d2 d3 d4 d5]at hs
   exact hs
set_option maxHeartbeats 2000000
def A.za9:aq:=sr [bi 15 .lss 14 13]
 (.seq (cd 15
 (.skip)
 (.exit 0))
 (.seq (.block 1 (sr [mv 16 14,mv 7 16]
 (sr [⟨(some 8),.aZ (.const (.int .u64 0)),none⟩]
 (.seq (sr [mv 17 7,mv 18 1,ln 19 18,bi 20 .lss 17 19]
 (cd 20
 (.aL [mv 21 1,mv 22 7,ia 23 1 21 22,ld 24 23,mv 8 24])
 (.skip)))
 (.aL [mv 26 5,mv 27 7,mv 28 0,mv 29 7,ia 30 1 28 29,ld 31 30,mv 32 8,mv 33 6,⟨(some 34),.ext .gG [(.tmp 31),(.tmp 32),(.tmp 33)],none⟩,mv 25 34,xt 35 25 0,xt 36 25 1,ia 37 1 26 27,so 37 35,mv 6 36])))))
 (.aL [bc 38 .add 14 1,mv 14 38])))
def A.b251:aq:=sr [mN 4]
 (sr [mv 9 0,ln 10 9,⟨(some 11),.bD 214 1 8 [(.int .u64 0)] (.tmp 10) (.tmp 10),none⟩,mv 5 11]
 (sr [⟨(some 6),.aZ (.const (.int .u64 0)),none⟩]
 (.seq (sr [mv 12 0,ln 13 12,mc 14 0]
 (.block 0 (.loop A.za9)))
 (sr [mv 39 5,c1 40 263 39,mv 4 40]
 (.ret)))))
theorem A.c251:A.F 251=some ⟨41,[.tmp 4],A.b251⟩:=by kernel_rfl
def A.k251:=@A.kk 251 _ _ _ A.c251 rfl
theorem Az{a b:Nat}(h:a<=b):(aD a).length<=(aD b).length:=by
 apply tA
 intro hc
 have h1:=Ay (b:=B) (nH b)
 rw[j9]at h1
 have h2:∀n,n≠0->B^((aD n).length-1)<=n:=by
  intro n
  induction n using Nat.strongRecOn with
  |_ n ih=>
   intro hn
   rw[j0 hn]
   by_cases h0:n/B=0
   ·rw[h0,nG];simp;omega
   ·have:=ih (n/B) (ya (by omega) (by decide)) h0
    have hp:0<(aD (n/B)).length:=by rw[j0 h0];simp
    simp only[bq,Nat.add_sub_cancel]
    rw[show (aD (n/B)).length=((aD (n/B)).length-1)+1 by omega,fJ]
    have h3:B^((aD (n/B)).length-1)*B<=n/B*B:=kl B this
    have:=Nat.div_mul_le_self n B
    omega
 have ha:a≠0:=by
  rintro rfl
  rw[nG]at hc;simp at hc
 have h3:=h2 a ha
 have h4:B^(aD b).length<=B^((aD a).length-1):=oE (by decide) (by omega)
 omega
structure Wa (h:T O) (N x y k:Nat) (o:List Nat) (c:Nat) (r:T V) (st:St):Prop where
 hk:k<=(aD x).length
 EJ:r.get 14=some (.int .i64 k)
 r6:r.get 6=some (.int .u64 c)
 n:st.n=N+1
 w:au N st.w=[]
 ad:ab h N st.h (N+1)
 row:st.h.get N=some (.cells (dg o) 214 true)
 len:o.length=(aD x).length
 ex:∃d,d.length=k/\o=d++List.replicate ((aD x).length-k) 0/\val B d+val B ((aD y).take k)=val B ((aD x).take k)+B^k*c/\c<=1/\Dg d
def Ys5(h:T O)(N x y m:Nat)(r:T V)(st:St):Prop:=∃k o c,m=(aD x).length-k/\Wa h N x y k o c r st
def Ys6(h:T O)(N x y:Nat)(r:T V)(st:St):Prop:=∃o c,Wa h N x y (aD x).length o c r st
theorem Yj0{x y o d:List Nat}{k c xk:Nat}(hx:x[k]?=some xk)(d1:d.length=k)(d2:o=d++List.replicate (x.length-k) 0)(d3:val B d+val B (y.take k)=val B (x.take k)+B^k*c)(d4:c<=1)(d5:Dg d)(gx:Dg x)(gy:Dg y):
  (d++[dT xk (dz y k) c]).length=k+1/\o.set k (dT xk (dz y k) c)=(d++[dT xk (dz y k) c])++List.replicate (x.length-(k+1)) 0/\val B (d++[dT xk (dz y k) c])+val B (y.take (k+1))=val B (x.take (k+1))+B^(k+1)*eY xk (dz y k) c/\eY xk (dz y k) c<=1/\Dg (d++[dT xk (dz y k) c]):=by
 have hk:k<x.length:=by
  apply oF;intro hc;rw[eG hc]at hx;cases hx
 have hxk:=gx.get hx
 have hyk:=VV gy k
 have hs:dT xk (dz y k) c+dz y k+c=xk+B*eY xk (dz y k) c/\dT xk (dz y k) c<B/\eY xk (dz y k) c<=1:=by
  unfold dT eY
  unfold B at*
  split<;>omega
 refine⟨by simp[d1],?_,?_,hs.2.2,?_⟩
 ·rw[d2,show x.length-k=(x.length-(k+1))+1 by omega,Qe d1]
 ·rw[KM,yN,yN,d1,show dz x k=xk by simp[dz,hx],fJ]
  have h1:=hs.1
  generalize dT xk (dz y k) c=s at*
  generalize eY xk (dz y k) c=b at*
  generalize B^k=p at*
  have:p*(s+dz y k+c)=p*(xk+B*b):=by rw[h1]
  grind
 ·intro e he
  rcases pw.1 he with he|he
  ·exact d5 e he
  ·simp at he;subst he;exact hs.2.1
theorem Ynu{x y:Nat}{o d:List Nat}{c:Nat}(hl:y<=x)(d1:d.length=(aD x).length)(d2:o=d++List.replicate ((aD x).length-(aD x).length) 0)(d3:val B d+val B ((aD y).take (aD x).length)=val B ((aD x).take (aD x).length)+B^(aD x).length*c)(d4:c<=1)(d5:Dg d):n8 o=aD (x-y):=by
 rw[d2,Nat.sub_self]
 simp only[List.replicate_zero,sJ]
 rw[yO d5]
 congr 1
 rw[fN (aV _),fN (Az hl),j9,j9]at d3
 have:=Ay d5
 rw[d1]at this
 rcases Nat.lt_or_ge c 1 with hc|hc
 ·have:c=0:=by omega
  subst this
  simp at d3;omega
 ·have:c=1:=by omega
  subst this
  omega
theorem Wb{h:T O}{N:Nat}{vx vy:V}{x y:Nat}(hx:Wn h N vx x)(hy:Wn h N vy y)(KO:y<=x)(yB:(aD x).length<1099511627776)(Gw:(aD y).length<1099511627776):Fn A.C 251 [vx,vy] h N (fun v' h' N'=>Wn h' N' v' (x-y)):=by
 intro w
 have lx:=hx.len
 have ly:=hy.len
 rw[bC]at lx ly
 rw[aP,A.k251 (by simp)]
 simp(disch:=first|(simp;done)|omega|(simp only[bC,cl,bq];omega)|rfl) [A.b251,lx]
 refine bN [(6,8),(14,38)] (fun e r st=>e=.exit 0/\Ys6 h N x y r st) (Ys5 h N x y) (aD x).length ?_ ?_ ?_
 ·refine⟨0,List.replicate (aD x).length 0,0,by omega,⟨by omega,by simp,by simp,by simp,by simp,ab.refl.set (aV _) |>.up (by omega),by simp[Cm],by simp,[],by simp,by simp,by simp[val],by decide,by simp[Dg]⟩⟩
 ·rintro m r ⟨H,n1,W⟩ hr hf ⟨k,o,c,rfl,hk,kW,h6,hn,hW,hK,hN,ho,d,hd⟩
  simp only at hn hW hK hN
  subst hn
  rw[bn]
  by_cases aB:k<(aD x).length
  ·obtain⟨i1,o1,c1,e1,w1,p1,p2,p3,p4⟩:=hx.at (eP (cW aB))
   have p3:=(hK.get _ p2).trans p3
   obtain⟨d1,d2,d3,d4,d5⟩:=hd
   have fz:=Yj0 (x:=aD x) (y:=aD y) (cW aB) d1 d2 d3 d4 d5 (nH x) (nH y)
   by_cases mK:k<(aD y).length
   ·obtain⟨i2,o2,c2,e2,w2,q1,q2,q3,q4⟩:=hy.at (eP (cW mK))
    have q3:=(hK.get _ q2).trans q3
    have hz:dz (aD y) k=(aD y)[k]:=by simp[dz,cW mK]
    rw[hz]at fz
    simp(disch:=first|(simp;done)|omega|(simp only[bC,cl,bq];omega)|rfl) [A.za9,hr,kW,h6,aB,mK,lx,ly,p1,p3,p4,q1,q3,q4,hN,mO,hf]
    exact⟨_,by omega,k+1,_,_,rfl,⟨by omega,by simp,by simp,rfl,by simp[hW],hK.set (aV _),by simp,by simp[ho],_,fz⟩⟩
   ·have hz:dz (aD y) k=0:=by simp[dz,eG (oo.1 mK)]
    rw[hz]at fz
    simp(disch:=first|(simp;done)|omega|(simp only[bC,cl,bq];omega)|rfl) [A.za9,hr,kW,h6,aB,mK,lx,ly,p1,p3,p4,hN,mO,hf]
    exact⟨_,by omega,k+1,_,_,rfl,⟨by omega,by simp,by simp,rfl,by simp[hW],hK.set (aV _),by simp,by simp[ho],_,fz⟩⟩
  ·have He:k=(aD x).length:=by omega
   subst He
   simp[A.za9,hr,kW,hf]
   exact⟨o,c,⟨by omega,by simp[kW],by simp[h6],rfl,by simp[hW],hK,hN,ho,d,hd⟩⟩
 ·rintro _ r ⟨H,n1,W⟩ hr ⟨rfl,o,c,hk,kW,h6,hn,hW,hK,hN,ho,d,d1,d2,d3,d4,d5⟩
  simp only at hn hW hK hN
  subst hn
  simp[hr]
  refine ax (yP (l:=o) (Sl.row (e:=214) (rw:=true) (by omega) (by simp[hN]) (by simp[ho]) (by simp)) (by simp[ho];omega)) ?_
  intro v' h' n' ga hs
  simp[aA]
  refine⟨hW,hK.trans ga,?_⟩
  rw[Ynu KO d1 d2 d3 d4 d5]at hs
  exact hs
set_option maxHeartbeats 2000000
def A.zaW:aq:=.seq (sr [mv 19 5,bc 20 .geq 19 0]
 (cd 20
 (.skip)
 (.exit 0)))
 (.seq (.block 1 (.seq (.aS [mv 23 0,mv 24 5,ia 25 1 23 24,ld 26 25,mv 27 1,mv 28 5,ia 29 1 27 28,ld 30 29,⟨(some 31),.bin .neq (.aH .int) false (.tmp 26) (.tmp 30),none⟩] [0,0,3,7,0,0,48,112,255])
 (cd 31
 (.seq (.seq (.aS [mv 32 0,mv 33 5,ia 34 1 32 33,ld 35 34,mv 36 1,mv 37 5,ia 38 1 36 37,ld 39 38,bi 40 .lss 35 39] [0,0,3,7,0,0,48,112,255])
 (cd 40
 (sr [⟨(some 4),.aZ (.const (.int .i64 (-1))),none⟩]
 (.ret))
 (.skip)))
 (sr [mc 4 1]
 (.ret)))
 (.skip))))
 (.aL [mv 21 5,bc 22 .sub 21 1,mv 5 22]))
def A.b250:aq:=sr [mc 4 0]
 (.seq (sr [mv 6 0,ln 7 6,mv 8 1,ln 9 8,⟨(some 10),.bin .neq (.aH .int) false (.tmp 7) (.tmp 9),none⟩]
 (cd 10
 (.seq (sr [mv 11 0,ln 12 11,mv 13 1,ln 14 13,bi 15 .lss 12 14]
 (cd 15
 (sr [⟨(some 4),.aZ (.const (.int .i64 (-1))),none⟩]
 (.ret))
 (.skip)))
 (sr [mc 4 1]
 (.ret)))
 (.skip)))
 (.seq (sr [mv 16 0,ln 17 16,bc 18 .sub 17 1,mv 5 18]
 (.block 0 (.loop A.zaW)))
 (sr [mc 4 0]
 (.ret))))
theorem A.c250:A.F 250=some ⟨41,[.tmp 4],A.b250⟩:=by kernel_rfl
def A.k250:=@A.kk 250 _ _ _ A.c250 rfl
def qL(x y:Int):Int:=if x<y then -1 else if y<x then 1 else 0
theorem Wc{x y:Nat}(h:(aD x).length<(aD y).length):x<y:=by
 apply oF
 intro hc
 have:=Az hc
 omega
theorem KP{b:Nat}{l:List Nat}{k d:Nat}(h:l[k]?=some d):val b (l.drop k)=d+b*val b (l.drop (k+1)):=by
 have hk:k<l.length:=by
  apply oF;intro hc;rw[eG hc]at h;cases h
 rw[Bl hk]
 rw[cW hk]at h
 simp only[ai]at h
 rw[h];rfl
theorem Wd(b:Nat)(l:List Nat)(k:Nat)(hk:k<=l.length):val b l=val b (l.take k)+b^k*val b (l.drop k):=by
 have:=KL b (l.take k) (l.drop k)
 rw[wN,gK,mw hk]at this
 exact this
theorem We{x y:List Nat}{k:Nat}(gx:Dg x)(hx:k<=x.length)(hy:k<=y.length)(h:val B (x.drop k)<val B (y.drop k)):val B x<val B y:=by
 rw[Wd B x k hx,Wd B y k hy]
 have h1:val B (x.take k)<B^k:=by
  have:=Ay (b:=B) (l:=x.take k) fun d hd=>gx d (uC hd)
  rwa [gK,mw hx]at this
 have h2:B^k*(val B (x.drop k)+1)<=B^k*val B (y.drop k):=jc _ h
 rw[oH]at h2
 omega
structure Wf (h:T O) (N x y m:Nat) (r:T V) (st:St):Prop where
 hm:m<=(aD x).length
 r5:r.get 5=some (.int .i64 ((m:Int)-1))
 n:st.n=N
 w:st.w=[]
 ad:ab h N st.h N
 top:(aD x).drop m=(aD y).drop m
theorem Wg{h:T O}{N:Nat}{vx vy:V}{x y:Nat}(hx:Wn h N vx x)(hy:Wn h N vy y)(yB:(aD x).length<1099511627776)(Gw:(aD y).length<1099511627776):Fn A.C 250 [vx,vy] h N (fun v' h' N'=>v'=.int .i64 (qL x y)):=by
 intro w
 have lx:=hx.len
 have ly:=hy.len
 rw[bC]at lx ly
 rw[aP,A.k250 (by simp)]
 by_cases bA:(aD x).length=(aD y).length
 ·have Qj:((aD x).length:Int)=((aD y).length:Int):=by omega
  simp(disch:=omega) [A.b250,lx,ly,bA]
  refine bN [(4,5),(19,40)] (fun e r st=>(e=.exit 0/\Wf h N x y 0 r st)\/(e=.ret/\r.get 4=some (.int .i64 (qL x y))/\st.n=N/\st.w=[]/\ab h N st.h N)) (Wf h N x y) (aD x).length ?_ ?_ ?_
  ·exact⟨by omega,by simp[bA],rfl,rfl,ab.refl,by rw[lP,bA,lP]⟩
  ·rintro m r ⟨H,n1,W⟩ hr hf ⟨hm,h5,hn,hW,hK,ht⟩
   simp only at hn hW hK
   subst hn;subst hW
   rw[bn]
   cases m with
   |zero=>
    simp[A.zaW,h5,hf]
    exact⟨by omega,by simp[h5],rfl,rfl,hK,ht⟩
   |succ m=>
    have dh:m<(aD x).length:=by omega
    have Pz:m<(aD y).length:=by omega
    have Qk:r.get 5=some (.int .i64 (m:Int)):=by rw[h5];congr 2;omega
    have gx:=cW dh
    have gy:=cW Pz
    obtain⟨i1,o1,c1,e1,w1,p1,p2,p3,p4⟩:=hx.at (eP gx)
    have p3:=(hK.get _ p2).trans p3
    obtain⟨i2,o2,c2,e2,w2,q1,q2,q3,q4⟩:=hy.at (eP gy)
    have q3:=(hK.get _ q2).trans q3
    rcases Nat.lt_trichotomy (aD x)[m] (aD y)[m]with aB|heq|xh
    ·have dW:x<y:=by
      have:=We (x:=aD x) (y:=aD y) (k:=m) (nH x) (by omega) (by omega) (by rw[KP gx,KP gy,ht];omega)
      rwa [j9,j9]at this
     have kX:¬(aD x)[m]=(aD y)[m]:=by omega
     simp(disch:=first|(simp;done)|omega|(simp only[bC,cl,bq];omega)|rfl) [A.zaW,Qk,hr,hf,lx,ly,p1,p2,p3,p4,q1,q2,q3,q4,kX,aB]
     exact⟨by simp[qL,dW],hK⟩
    ·have Hf:(aD x).drop m=(aD y).drop m:=by rw[Bl dh,Bl Pz,ht,heq]
     simp(disch:=first|(simp;done)|omega|(simp only[bC,cl,bq];omega)|rfl) [A.zaW,Qk,hr,hf,lx,ly,p1,p2,p3,p4,q1,q2,q3,q4,heq]
     exact⟨m,by omega,⟨by omega,by simp,rfl,rfl,hK,Hf⟩⟩
    ·have dW:y<x:=by
      have:=We (x:=aD y) (y:=aD x) (k:=m) (nH y) (by omega) (by omega) (by rw[KP gx,KP gy,ht];omega)
      rwa [j9,j9]at this
     have kX:¬(aD x)[m]=(aD y)[m]:=by omega
     have aB:¬(aD x)[m]<(aD y)[m]:=by omega
     have Cs:¬x<y:=by omega
     simp(disch:=first|(simp;done)|omega|(simp only[bC,cl,bq];omega)|rfl) [A.zaW,Qk,hr,hf,lx,ly,p1,p2,p3,p4,q1,q2,q3,q4,kX,aB]
     exact⟨by simp[qL,dW,Cs],hK⟩
  ·rintro e r ⟨H,n1,W⟩ hr (⟨rfl,hm,h5,hn,hW,hK,ht⟩|⟨rfl,h4,hn,hW,hK⟩)
   ·simp only at hn hW hK
    subst hn;subst hW
    simp only[tu]at ht
    have:x=y:=by rw[<-j9 x,ht,j9]
    subst this
    simp[aA]
    exact⟨hK,by simp[qL]⟩
   ·simp only at hn hW hK
    subst hn;subst hW
    simp[h4,aA]
    exact hK
 ·have Qj:¬((aD x).length:Int)=((aD y).length:Int):=by omega
  by_cases aB:(aD x).length<(aD y).length
  ·have:=Wc aB
   simp[A.b250,lx,ly,bA,aB,aA]
   exact⟨ab.refl,by simp[qL,this]⟩
  ·have h1:=Wc (x:=y) (y:=x) (by omega)
   have h2:¬x<y:=by omega
   simp[A.b250,lx,ly,bA,aB,aA]
   exact⟨ab.refl,by simp[qL,h1,h2]⟩
set_option maxHeartbeats 4000000
def A.zbQ:aq:=sr [bi 30 .lss 29 28]
 (.seq (cd 30
 (.skip)
 (.exit 2))
 (.seq (.block 3 (sr [mv 31 29,ia 32 1 27 29,ld 33 32,mv 9 31,mv 10 33]
 (sr [mv 35 7,mv 36 10,c2 37 220 35 36,mv 34 37,xt 38 34 0,xt 39 34 1,mv 11 38,mv 12 39]
 (sr [⟨(some 13),.aZ (.const (.int .u64 0)),none⟩]
 (sr [mv 41 12,mv 42 5,mv 43 6,mv 44 9,bi 45 .add 43 44,ia 46 1 42 45,ld 47 46,⟨(some 48),.ext .eB [(.tmp 41),(.tmp 47),(.const (.int .u64 0))],none⟩,mv 40 48,xt 49 40 0,xt 50 40 1,mv 12 49,mv 13 50]
 (sr [mv 51 11,mv 52 13,bi 53 .add 51 52,mv 11 53]
 (sr [mv 55 12,mv 56 8,⟨(some 57),.ext .eB [(.tmp 55),(.tmp 56),(.const (.int .u64 0))],none⟩,mv 54 57,xt 58 54 0,xt 59 54 1,mv 12 58,mv 13 59]
 (.aL [mv 60 5,mv 61 6,mv 62 9,bi 63 .add 61 62,mv 64 12,mv 65 11,mv 66 13,bi 67 .add 65 66,ia 68 1 60 63,so 68 64,mv 8 67]))))))))
 (.aL [bc 69 .add 29 1,mv 29 69])))
def A.zbR:aq:=sr [bi 23 .lss 22 21]
 (.seq (cd 23
 (.skip)
 (.exit 0))
 (.seq (.block 1 (sr [mv 24 22,ia 25 1 20 22,ld 26 25,mv 6 24,mv 7 26]
 (sr [⟨(some 8),.aZ (.const (.int .u64 0)),none⟩]
 (.seq (sr [mv 27 1,ln 28 27,mc 29 0]
 (.block 2 (.loop A.zbQ)))
 (.aL [mv 70 5,mv 71 6,mv 72 1,ln 73 72,bi 74 .add 71 73,mv 75 8,ia 76 1 70 74,so 76 75])))))
 (.aL [bc 77 .add 22 1,mv 22 77])))
def A.b224:aq:=sr [mN 4]
 (sr [mv 14 0,ln 15 14,mv 16 1,ln 17 16,bi 18 .add 15 17,⟨(some 19),.bD 214 1 8 [(.int .u64 0)] (.tmp 18) (.tmp 18),none⟩,mv 5 19]
 (.seq (sr [mv 20 0,ln 21 20,mc 22 0]
 (.block 0 (.loop A.zbR)))
 (sr [mv 78 5,c1 79 263 78,mv 4 79]
 (.ret))))
theorem A.c224:A.F 224=some ⟨80,[.tmp 4],A.b224⟩:=by kernel_rfl
def A.k224:=@A.kk 224 _ _ _ A.c224 rfl
theorem Hg{b:Nat}:∀{l:List Nat} {k old v:Nat},l[k]?=some old->val b (l.set k v)+b^k*old=val b l+b^k*v
 |[],k,old,v,h=>by simp at h
 |d::l,0,old,v,h=>by simp at h;subst h;simp[val];omega
 |d::l,k+1,old,v,h=>by
  have ih:=Hg (b:=b) (l:=l) (k:=k) (old:=old) (v:=v) (by simpa using h)
  simp only[List.set_cons_succ,val,fJ]
  generalize val b (l.set k v)=p at*
  generalize val b l=q at*
  generalize b^k=z at*
  have:b*(p+z*old)=b*(q+z*v):=by rw[ih]
  grind
theorem Dg.set{l:List Nat}(h:Dg l){k v:Nat}(hv:v<B):Dg (l.set k v):=by
 intro d hd
 rcases zl hd with hd|hd
 ·exact h d hd
 ·subst hd;exact hv
def fo(x y o c:Nat):Nat:=bz (bz (bz (x*y)+o)+c)
def ic(x y o c:Nat):Nat:=cD (cD (bX (x*y)) (bX (bz (x*y)+o))) (bX (bz (bz (x*y)+o)+c))
theorem Ygk{x y o c:Nat}(hx:x<B)(hy:y<B)(ho:o<B)(hc:c<B):fo x y o c+B*ic x y o c=x*y+o+c/\fo x y o c<B/\ic x y o c<B:=by
 have:x*y<=18446744073709551615*18446744073709551615:=sM (by unfold B at*;omega) (by unfold B at*;omega)
 unfold fo ic bz bX cD
 unfold B at*
 generalize x*y=p at*
 omega
structure Wh (h:T O) (N x y i j:Nat) (o:List Nat) (c xi:Nat) (r:T V) (st:St):Prop where
 hj:j<=(aD y).length
 r29:r.get 29=some (.int .i64 j)
 r8:r.get 8=some (.int .u64 c)
 n:st.n=N+1
 w:au N st.w=[]
 ad:ab h N st.h (N+1)
 row:st.h.get N=some (.cells (dg o) 214 true)
 len:o.length=(aD x).length+(aD y).length
 dg:Dg o
 zero:∀t,i+(aD y).length<=t->t<o.length->o[t]?=some 0
 lc:c<B
 ex:val B o+B^(i+j)*c=val B ((aD x).take i)*y+B^i*(xi*val B ((aD y).take j))
def Ys7(h:T O)(N x y i xi m:Nat)(r:T V)(st:St):Prop:=∃j o c,m=(aD y).length-j/\Wh h N x y i j o c xi r st
def Ys8(h:T O)(N x y i xi:Nat)(r:T V)(st:St):Prop:=∃o c,Wh h N x y i (aD y).length o c xi r st
structure Wj (h:T O) (N x y i:Nat) (o:List Nat) (r:T V) (st:St):Prop where
 hi:i<=(aD x).length
 r22:r.get 22=some (.int .i64 i)
 n:st.n=N+1
 w:au N st.w=[]
 ad:ab h N st.h (N+1)
 row:st.h.get N=some (.cells (Go.Mx.dg o) 214 true)
 len:o.length=(aD x).length+(aD y).length
 dg:Dg o
 zero:∀t,i+(aD y).length<=t->t<o.length->o[t]?=some 0
 ex:val B o=val B ((aD x).take i)*y
def Yrj(h:T O)(N x y m:Nat)(r:T V)(st:St):Prop:=∃i o,m=(aD x).length-i/\Wj h N x y i o r st
def Yrk(h:T O)(N x y:Nat)(r:T V)(st:St):Prop:=∃o,Wj h N x y (aD x).length o r st
theorem Zt4{h:T O}{N:Nat}{vx vy:V}{x y:Nat}(hx:Wn h N vx x)(hy:Wn h N vy y)(yB:(aD x).length<1099511627776)(Gw:(aD y).length<1099511627776):Fn A.C 224 [vx,vy] h N (fun v' h' N'=>Wn h' N' v' (x*y)):=by
 intro w
 have lx:=hx.len
 have ly:=hy.len
 rw[bC]at lx ly
 rw[aP,A.k224 (by simp)]
 simp(disch:=first|(simp;done)|omega|(simp only[bC,cl,bq];omega)|rfl) [A.b224,lx,ly]
 refine bN [(6,13),(22,77)] (fun e r st=>e=.exit 0/\Yrk h N x y r st) (Yrj h N x y) (aD x).length ?_ ?_ ?_
 ·refine⟨0,List.replicate ((aD x).length+(aD y).length) 0,by omega,⟨by omega,by simp,by simp,by simp,ab.refl.set (aV _) |>.up (by omega),?_,by simp,?_,?_,by simp[val,VU]⟩⟩
  ·simp[Cm]
  ·intro d hd
   rw[DS]at hd
   rw[hd.2];decide
  ·intro t _ ht
   simp at ht
   simp[ht]
 ·rintro m r ⟨H,n1,W⟩ hr hf ⟨i,o,rfl,hi,kW,hn,hW,hK,hN,ho,hd,hz,he⟩
  simp only at hn hW hK hN
  subst hn
  rw[bn]
  by_cases aB:i<(aD x).length
  ·obtain⟨i1,o1,c1,e1,w1,p1,p2,p3,p4⟩:=hx.at (eP (cW aB))
   have p3:=(hK.get _ p2).trans p3
   have gx:=cW aB
   generalize (aD x)[i]=xi at*
   simp[A.zbR,hr,kW,aB,lx,ly,p1,p3,p4]
   refine bN [(8,13),(29,69)] (fun e r st=>e=.exit 2/\Ys8 h N x y i xi r st) (Ys7 h N x y i xi) (aD y).length ?_ ?_ ?_
   ·exact⟨0,o,0,by omega,⟨by omega,by simp,by simp,rfl,hW,hK,hN,ho,hd,hz,by decide,by simp[val,he]⟩⟩
   ·rintro m r2 ⟨H2,n2,W2⟩ cR dX ⟨j,o2,c,rfl,hj,Hh,h8,eF,eN,kY,tU,sI,fu,dP,Ep,qe⟩
    simp only at eF eN kY tU
    subst eF
    rw[bn]
    have hi:xi<B:=(nH x).get gx
    by_cases dW:j<(aD y).length
    ·obtain⟨i2,o3,c3,e3,w3,q1,q2,q3,q4⟩:=hy.at (eP (cW dW))
     have q3:=(kY.get _ q2).trans q3
     have gy:=cW dW
     generalize (aD y)[j]=yj at*
     have Wk:yj<B:=(nH y).get gy
     have go:=cW (l:=o2) (i:=i+j) (by omega)
     generalize o2[i+j]'(by omega)=ov at*
     simp[A.zbQ,cR,Hh,dW,ly,q1,q3,q4]
     refine ax (Hi hi Wk) ?_
     rintro _ _ _ xq ⟨rfl,rfl,rfl⟩
     simp(disch:=first|(simp;done)|omega|(simp only[bC,cl,bq];omega)|rfl) [-getElem?_pos,hr,cR,Hh,h8,dX,tU,eP go,mO]
     obtain⟨m1,m2,m3⟩:=Ygk hi Wk (fu.get go) Ep
     refine⟨_,by omega,j+1,o2.set (i+j) (fo xi yj ov c),ic xi yj ov c,rfl,⟨by omega,by simp,?_,rfl,by simp[eN],kY.set (aV _),?_,by simp[sI],fu.set m2,?_,m3,?_⟩⟩
     ·simp[ic]
     ·simp[fo]
     ·intro t t1 t2
      rw[dr (by omega)]
      exact dP t t1 (by simpa using t2)
     ·have v1:=Hg (b:=B) (v:=fo xi yj ov c) go
      rw[Ax gy]
      have e1:B^(i+(j+1))=B^(i+j)*B:=by rw[show i+(j+1)=(i+j)+1 by omega,fJ]
      have e2:B^i*(xi*(B^j*yj))=B^(i+j)*(xi*yj):=by rw[jr];grind
      have e3:B^(i+j)*(fo xi yj ov c+B*ic xi yj ov c)=B^(i+j)*(xi*yj+ov+c):=by rw[m1]
      rw[e1]
      generalize val B (List.set o2 (i+j) (fo xi yj ov c))=z1 at*
      generalize val B o2=z2 at*
      generalize fo xi yj ov c=z3 at*
      generalize ic xi yj ov c=z4 at*
      generalize val B (List.take j (aD y))=z5 at*
      generalize B^(i+j)=z6 at*
      grind
    ·have:j=(aD y).length:=by omega
     subst this
     simp[A.zbQ,cR,Hh,dX]
     exact⟨o2,c,⟨by omega,by simp[Hh],by simp[h8],rfl,eN,kY,tU,sI,fu,dP,Ep,qe⟩⟩
   ·rintro e r2 ⟨H2,n2,W2⟩ cR ⟨rfl,o2,c,hj,Hh,h8,eF,eN,kY,tU,sI,fu,dP,Ep,qe⟩
    simp only at eF eN kY tU
    subst eF
    have dX:=hf.inner (D':=[(8,13),(29,69)]) rfl (by simp) cR
    simp(disch:=first|(simp;done)|omega|(simp only[bC,cl,bq];omega)|rfl) [hr,cR,kW,h8,ly,tU,mO,dX]
    have nY:o2[i+(aD y).length]?=some 0:=dP _ (aV _) (by omega)
    refine⟨_,by omega,i+1,o2.set (i+(aD y).length) c,rfl,⟨by omega,by simp,rfl,by simp[eN],kY.set (aV _),by simp,by simp[sI],fu.set Ep,?_,?_⟩⟩
    ·intro t t1 t2
     rw[dr (by omega)]
     exact dP t (by omega) (by simpa using t2)
    ·have v1:=Hg (b:=B) (v:=c) nY
     rw[fN (aV _),j9]at qe
     rw[Ax gx]
     simp only[Nat.mul_zero,jR]at v1
     rw[v1,qe]
     grind
  ·have:i=(aD x).length:=by omega
   subst this
   simp[A.zbR,hr,kW,hf]
   exact⟨o,⟨by omega,by simp[kW],rfl,hW,hK,hN,ho,hd,hz,he⟩⟩
 ·rintro _ r ⟨H,n1,W⟩ hr ⟨rfl,o,hi,kW,hn,hW,hK,hN,ho,hd,hz,he⟩
  simp only at hn hW hK hN
  subst hn
  simp[hr]
  refine ax (yP (l:=o) (Sl.row (e:=214) (rw:=true) (by omega) (by simp[hN]) (by simp[ho]) (by simp)) (by simp[ho];omega)) ?_
  intro v' h' n' ga hs
  simp[aA]
  refine⟨hW,hK.trans ga,?_⟩
  rw[fN (aV _),j9]at he
  rw[yO hd,he]at hs
  exact hs
variable {n:Nat}
set_option maxHeartbeats 2000000
def Wl:List UInt8:=[0,1,2,2,3,3,3,3,4,4,4,4,4,4,4,4,5,5,5,5,5,5,5,5,5,5,5,5,5,5,5,5,6,6,6,6,6,6,6,6,6,6,6,6,6,6,6,6,6,6,6,6,6,6,6,6,6,6,6,6,6,6,6,6,7,7,7,7,7,7,7,7,7,7,7,7,7,7,7,7,7,7,7,7,7,7,7,7,7,7,7,7,7,7,7,7,7,7,7,7,7,7,7,7,7,7,7,7,7,7,7,7,7,7,7,7,7,7,7,7,7,7,7,7,7,7,7,7,8,8,8,8,8,8,8,8,8,8,8,8,8,8,8,8,8,8,8,8,8,8,8,8,8,8,8,8,8,8,8,8,8,8,8,8,8,8,8,8,8,8,8,8,8,8,8,8,8,8,8,8,8,8,8,8,8,8,8,8,8,8,8,8,8,8,8,8,8,8,8,8,8,8,8,8,8,8,8,8,8,8,8,8,8,8,8,8,8,8,8,8,8,8,8,8,8,8,8,8,8,8,8,8,8,8,8,8,8,8,8,8,8,8,8,8,8,8,8,8,8,8,8,8,8,8,8,8]
def A.b268:aq:=sr [mc 2 0]
 (.seq (sr [mv 3 0,⟨(some 4),.bin .geq (.node []) false (.tmp 3) (.const (.int .u64 4294967296)),none⟩]
 (cd 4
 (sr [mv 5 0,⟨(some 6),.bin .shr (.node []) false (.tmp 5) (.const (.int .u64 32)),none⟩,mv 0 6]
 (.aL [mc 2 32]))
 (.skip)))
 (.seq (sr [mv 7 0,⟨(some 8),.bin .geq (.node []) false (.tmp 7) (.const (.int .u64 65536)),none⟩]
 (cd 8
 (sr [mv 9 0,⟨(some 10),.bin .shr (.node []) false (.tmp 9) (.const (.int .u64 16)),none⟩,mv 0 10]
 (.aL [mv 11 2,bc 12 .add 11 16,mv 2 12]))
 (.skip)))
 (.seq (sr [mv 13 0,⟨(some 14),.bin .geq (.node []) false (.tmp 13) (.const (.int .u64 256)),none⟩]
 (cd 14
 (sr [mv 15 0,⟨(some 16),.bin .shr (.node []) false (.tmp 15) (.const (.int .u64 8)),none⟩,mv 0 16]
 (.aL [mv 17 2,bc 18 .add 17 8,mv 2 18]))
 (.skip)))
 (sr [mv 19 2,mv 20 0,⟨(some 21),.ba .u8 (.tmp 20),none⟩,⟨(some 22),.aQ (.const (.str Wl)) (.tmp 21),none⟩,⟨(some 23),.ba .i64 (.tmp 22),none⟩,bi 24 .add 19 23,mv 2 24]
 (.ret)))))
theorem A.c268:A.F 268=some ⟨25,[.tmp 2],A.b268⟩:=by kernel_rfl
def A.k268:=@A.kk 268 _ _ _ A.c268 rfl
def A.b272:aq:=sr [mc 2 0]
 (sr [mv 3 0,c1 4 268 3,⟨(some 5),.bin .sub (.node []) false (.const (.int .i64 64)) (.tmp 4),none⟩,mv 2 5]
 (.ret))
theorem A.c272:A.F 272=some ⟨6,[.tmp 2],A.b272⟩:=by kernel_rfl
def A.k272:=@A.kk 272 _ _ _ A.c272 rfl
def a_(n:Nat):Nat:=if n=0 then 0 else Nat.log2 n+1
theorem KQ(n:Nat):n<2^a_ n:=by
 unfold a_
 split
 ·simp[*]
 ·exact Nat.lt_log2_self
theorem EK(h:n≠0):2^(a_ n-1)<=n:=by
 unfold a_
 rw[ar h]
 exact Nat.log2_self_le h
theorem Ym0{k:Nat}(h1:2^k<=n)(h2:n<2^(k+1)):a_ n=k+1:=by
 have hn:n≠0:=by have:=oG k;omega
 unfold a_
 rw[ar hn]
 congr 1
 have h3:Nat.log2 n<k+1:=(Nat.log2_lt hn).2 h2
 have h4:k<=Nat.log2 n:=(Nat.le_log2 hn).2 h1
 omega
theorem tV{k:Nat}(h:2^k<=n):a_ (al n k)+k=a_ n:=by
 unfold al
 have h0:n/2^k≠0:=by
  have:=Nat.div_pos h (oG k);omega
 have h1:=KQ (n/2^k)
 have h2:=EK h0
 have hp:0<a_ (n/2^k):=by unfold a_;rw[ar h0];omega
 have e:a_ (n/2^k)+k=(a_ (n/2^k)-1+k)+1:=by omega
 rw[e]
 symm
 apply Ym0
 ·rw[jr]
  exact lS (kl _ h2) (Nat.div_mul_le_self n _)
 ·rw[show a_ (n/2^k)-1+k+1=a_ (n/2^k)+k by omega,jr]
  exact(mq (oG k)).1 h1
theorem AA:∀{n:Nat},n<256->Wl[n]?=some (UInt8.ofNat (a_ n)):=by decide+kernel
theorem yQ:∀{n:Nat},n<256->a_ n<9:=by decide+kernel
theorem AB(h:n<256):cE (UInt8.ofNat (a_ n))=(a_ n:Int):=by
 have:=yQ h
 unfold cE
 simp;omega
theorem Ql{h:T O}{N:Nat}{x:Nat}(hx:x<18446744073709551616):Fn A.C 268 [.int .u64 x] h N (fun v' h' N'=>h'=h/\N'=N/\v'=.int .i64 (a_ x:Nat)):=by
 intro w
 rw[aP,A.k268 (by simp)]
 by_cases h0:4294967296<=x
 ·have pQ:(4294967296:Int)<=((x:Nat):Int):=by omega
  by_cases h1:65536<=al (x) 32
  ·have fB:(65536:Int)<=((al (x) 32:Nat):Int):=by omega
   by_cases h2:256<=al (al (x) 32) 16
   ·have jF:(256:Int)<=((al (al (x) 32) 16:Nat):Int):=by omega
    have hb:al (al (al (x) 32) 16) 8<256:=by (try simp only[al]at*);omega
    have ht:=AA hb
    have hv:cE (UInt8.ofNat (a_ (al (al (al (x) 32) 16) 8)))=(a_ (al (al (al (x) 32) 16) 8):Int):=AB hb
    have hl:=yQ hb
    simp(disch:=omega) [A.b268,pQ,fB,jF,xb,ht,hv,aA]
    have:=tV (k:=32) (n:=x) h0
    have:=tV (k:=16) (n:=al (x) 32) h1
    have:=tV (k:=8) (n:=al (al (x) 32) 16) h2
    first|exact ab.refl|exact And.intro ab.refl (by omega)
   ·have jF:¬(256:Int)<=((al (al (x) 32) 16:Nat):Int):=by omega
    have hb:al (al (x) 32) 16<256:=by (try simp only[al]at*);omega
    have ht:=AA hb
    have hv:cE (UInt8.ofNat (a_ (al (al (x) 32) 16)))=(a_ (al (al (x) 32) 16):Int):=AB hb
    have hl:=yQ hb
    simp(disch:=omega) [A.b268,pQ,fB,jF,xb,ht,hv,aA]
    have:=tV (k:=32) (n:=x) h0
    have:=tV (k:=16) (n:=al (x) 32) h1
    first|exact ab.refl|exact And.intro ab.refl (by omega)
  ·have fB:¬(65536:Int)<=((al (x) 32:Nat):Int):=by omega
   by_cases h2:256<=al (x) 32
   ·have jF:(256:Int)<=((al (x) 32:Nat):Int):=by omega
    have hb:al (al (x) 32) 8<256:=by (try simp only[al]at*);omega
    have ht:=AA hb
    have hv:cE (UInt8.ofNat (a_ (al (al (x) 32) 8)))=(a_ (al (al (x) 32) 8):Int):=AB hb
    have hl:=yQ hb
    simp(disch:=omega) [A.b268,pQ,fB,jF,xb,ht,hv,aA]
    have:=tV (k:=32) (n:=x) h0
    have:=tV (k:=8) (n:=al (x) 32) h2
    first|exact ab.refl|exact And.intro ab.refl (by omega)
   ·have jF:¬(256:Int)<=((al (x) 32:Nat):Int):=by omega
    have hb:al (x) 32<256:=by (try simp only[al]at*);omega
    have ht:=AA hb
    have hv:cE (UInt8.ofNat (a_ (al (x) 32)))=(a_ (al (x) 32):Int):=AB hb
    have hl:=yQ hb
    simp(disch:=omega) [A.b268,pQ,fB,jF,xb,ht,hv,aA]
    have:=tV (k:=32) (n:=x) h0
    first|exact ab.refl|exact And.intro ab.refl (by omega)
 ·have pQ:¬(4294967296:Int)<=((x:Nat):Int):=by omega
  by_cases h1:65536<=x
  ·have fB:(65536:Int)<=((x:Nat):Int):=by omega
   by_cases h2:256<=al (x) 16
   ·have jF:(256:Int)<=((al (x) 16:Nat):Int):=by omega
    have hb:al (al (x) 16) 8<256:=by (try simp only[al]at*);omega
    have ht:=AA hb
    have hv:cE (UInt8.ofNat (a_ (al (al (x) 16) 8)))=(a_ (al (al (x) 16) 8):Int):=AB hb
    have hl:=yQ hb
    simp(disch:=omega) [A.b268,pQ,fB,jF,xb,ht,hv,aA]
    have:=tV (k:=16) (n:=x) h1
    have:=tV (k:=8) (n:=al (x) 16) h2
    first|exact ab.refl|exact And.intro ab.refl (by omega)
   ·have jF:¬(256:Int)<=((al (x) 16:Nat):Int):=by omega
    have hb:al (x) 16<256:=by (try simp only[al]at*);omega
    have ht:=AA hb
    have hv:cE (UInt8.ofNat (a_ (al (x) 16)))=(a_ (al (x) 16):Int):=AB hb
    have hl:=yQ hb
    simp(disch:=omega) [A.b268,pQ,fB,jF,xb,ht,hv,aA]
    have:=tV (k:=16) (n:=x) h1
    first|exact ab.refl|exact And.intro ab.refl (by omega)
  ·have fB:¬(65536:Int)<=((x:Nat):Int):=by omega
   by_cases h2:256<=x
   ·have jF:(256:Int)<=((x:Nat):Int):=by omega
    have hb:al (x) 8<256:=by (try simp only[al]at*);omega
    have ht:=AA hb
    have hv:cE (UInt8.ofNat (a_ (al (x) 8)))=(a_ (al (x) 8):Int):=AB hb
    have hl:=yQ hb
    simp(disch:=omega) [A.b268,pQ,fB,jF,xb,ht,hv,aA]
    have:=tV (k:=8) (n:=x) h2
    first|exact ab.refl|exact And.intro ab.refl (by omega)
   ·have jF:¬(256:Int)<=((x:Nat):Int):=by omega
    have hb:x<256:=by (try simp only[al]at*);omega
    have ht:=AA hb
    have hv:cE (UInt8.ofNat (a_ (x)))=(a_ (x):Int):=AB hb
    have hl:=yQ hb
    simp(disch:=omega) [A.b268,pQ,fB,jF,xb,ht,hv,aA]
    first|exact ab.refl|exact And.intro ab.refl (by omega)
theorem Wm{h:T O}{N:Nat}{x:Nat}(hx:x<18446744073709551616):Fn A.C 272 [.int .u64 x] h N (fun v' h' N'=>h'=h/\N'=N/\v'=.int .i64 ((64-a_ x:Nat))):=by
 intro w
 have hl:a_ x<=64:=by
  by_cases h0:x=0
  ·subst h0;decide
  ·apply tA
   intro hc
   have:=EK h0
   have:2^64<=2^(a_ x-1):=oE (by decide) (by omega)
   omega
 rw[aP,A.k272 (by simp)]
 simp[A.b272]
 refine ax (Ql hx) ?_
 rintro _ _ _ hk ⟨rfl,rfl,rfl⟩
 simp(disch:=omega) [aA]
 exact⟨hk,by omega⟩
end Go.Mx
