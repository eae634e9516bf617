/-
  num.addWords: adds words.
-/
import Derived.Test.YtlbophlgohokkaaGreatDoorRcI
set_option linter.all false
namespace Go.Mx
open Go Go.Proofs
set_option maxHeartbeats 2000000
set_option maxRecDepth 1000000
def A.fl:aq:=sr [bi 23 .lss 22 21]
 (.seq (cd 23
 (.skip)
 (.exit 0))
 (.seq (.block 1 (sr [mv 24 22,mv 7 24]
 (sr [⟨(some 8),.aY (.const (.int .u64 0)),none⟩]
 (.seq (sr [mv 25 7,mv 26 1,ln 27 26,bi 28 .lss 25 27]
 (cd 28
 (.aM [mv 29 1,mv 30 7,ia 31 1 29 30,ld 32 31,mv 8 32])
 (.skip)))
 (.aM [mv 34 5,mv 35 7,mv 36 0,mv 37 7,ia 38 1 36 37,ld 39 38,mv 40 8,mv 41 6,⟨(some 42),.ext .eJ [(.tmp 39),(.tmp 40),(.tmp 41)],none⟩,mv 33 42,xt 43 33 0,xt 44 33 1,ia 45 1 34 35,so 45 43,mv 6 44])))))
 (.aM [bc 46 .add 22 1,mv 22 46])))
def A.b249:aq:=sr [mN 4]
 (.seq (sr [mv 9 0,ln 10 9,mv 11 1,ln 12 11,bi 13 .lss 10 12]
 (cd 13
 (.aM [mv 14 1,mv 15 0,mv 0 14,mv 1 15])
 (.skip)))
 (sr [mv 16 0,ln 17 16,bc 18 .add 17 1,⟨(some 19),.bO 214 1 8 [(.int .u64 0)] (.tmp 18) (.tmp 18),none⟩,mv 5 19]
 (sr [⟨(some 6),.aY (.const (.int .u64 0)),none⟩]
 (.seq (sr [mv 20 0,ln 21 20,mc 22 0]
 (.block 0 (.loop A.fl)))
 (sr [mv 47 5,mv 48 0,ln 49 48,mv 50 6,ia 51 1 47 49,so 51 50]
 (sr [mv 52 5,c1 53 263 52,mv 4 53]
 (.ret)))))))
theorem A.c249:A.F 249=some ⟨54,[.tmp 4],A.b249⟩:=by kernel_rfl
def A.k249:=@A.kk 249 _ _ _ A.c249 rfl
structure Y9 (h:T O) (N x y k:Nat) (o:List Nat) (c:Nat) (r:T V) (st:St):Prop where
 hk:k<=(aC x).length
 r22:r.get 22=some (.int .i64 k)
 r6:r.get 6=some (.int .u64 c)
 n:st.n=N+1
 w:ad N st.w=[]
 ae:ab h N st.h (N+1)
 row:st.h.get N=some (.cells (dg o) 214 true)
 len:o.length=(aC x).length+1
 ex:∃d,d.length=k/\o=d++List.replicate ((aC x).length+1-k) 0/\val B d+B^k*c=val B ((aC x).take k)+val B ((aC y).take k)/\c<=1/\Dg d
def Za(h:T O)(N x y m:Nat)(r:T V)(st:St):Prop:=∃k o c,m=(aC x).length-k/\Y9 h N x y k o c r st
def Zb(h:T O)(N x y:Nat)(r:T V)(st:St):Prop:=∃o c,Y9 h N x y (aC x).length o c r st
theorem Zc{x y o d:List Nat}{k c xk:Nat}(hx:x[k]?=some xk)(d1:d.length=k)(d2:o=d++List.replicate (x.length+1-k) 0)(d3:val B d+B^k*c=val B (x.take k)+val B (y.take k))(d4:c<=1)(d5:Dg d)(gx:Dg x)(gy:Dg y):
  (d++[bz (xk+dz y k+c)]).length=k+1/\o.set k (bz (xk+dz y k+c))=(d++[bz (xk+dz y k+c)])++List.replicate (x.length+1-(k+1)) 0/\val B (d++[bz (xk+dz y k+c)])+B^(k+1)*bX (xk+dz y k+c)=val B (x.take (k+1))+val B (y.take (k+1))/\bX (xk+dz y k+c)<=1/\Dg (d++[bz (xk+dz y k+c)]):=by
 have hk:k<x.length:=by
  apply qd;intro hc;rw[gJ hc]at hx;cases hx
 have hxk:=gx.get hx
 have hyk:=YX gy k
 have hm:=ri (xk+dz y k+c) B
 refine⟨by simp[d1],?_,?_,?_,?_⟩
 ·rw[d2,show x.length+1-k=(x.length-k)+1 by omega,Ti d1,show x.length+1-(k+1)=x.length-k by omega]
 ·rw[MW,Ay,Ay,d1,show dz x k=xk by simp[dz,hx]]
  have e1:bz (xk+dz y k+c)=(xk+dz y k+c)%B:=rfl
  have e2:bX (xk+dz y k+c)=(xk+dz y k+c)/B:=rfl
  rw[e1,e2,fL]
  generalize (xk+dz y k+c)%B=lo at*
  generalize (xk+dz y k+c)/B=hi at*
  generalize B^k=p at*
  have:p*(B*hi+lo)=p*(xk+dz y k+c):=by rw[hm]
  grind
 ·show (xk+dz y k+c)/B<=1
  unfold B at*;omega
 ·intro e he
  rcases oF.1 he with he|he
  ·exact d5 e he
  ·simp at he;subst he;exact jg _ (by decide)
theorem Zd{x y:Nat}{o d:List Nat}{c:Nat}(hl:(aC y).length<=(aC x).length)(d1:d.length=(aC x).length)(d2:o=d++List.replicate ((aC x).length+1-(aC x).length) 0)(d3:val B d+B^(aC x).length*c=val B ((aC x).take (aC x).length)+val B ((aC y).take (aC x).length))(d4:c<=1)(d5:Dg d):qk (o.set (aC x).length c)=aC (x+y):=by
 rw[d2,show (aC x).length+1-(aC x).length=0+1 by omega,Ti d1]
 simp only[List.replicate_zero,uT]
 rw[Az,MW,d1,d3,eF (aS _),eF hl,kv,kv]
 intro e he
 rcases oF.1 he with he|he
 ·exact d5 e he
 ·simp at he;subst he;unfold B;omega
theorem Zu2{h:T O}{N:Nat}{vx vy:V}{x y:Nat}(hx:Wn h N vx x)(hy:Wn h N vy y)(Ah:(aC x).length<1099511627776)(ID:(aC y).length<1099511627776):Fn A.C 249 [vx,vy] h N (fun v' h' N'=>Wn h' N' v' (x+y)):=by
 intro w
 have lx:=hx.len
 have ly:=hy.len
 rw[bl]at lx ly
 rw[aR,A.k249 (by simp)]
 by_cases hl:(aC x).length<(aC y).length
 ·simp(disch:=first|(simp;done)|omega|(simp only[bl,bG,bh];omega)|rfl) [A.b249,lx,ly,hl]
  refine bQ [(6,8),(22,46)] (fun e r st=>e=.exit 0/\Zb h N y x r st) (Za h N y x) (aC y).length ?_ ?_ ?_
  ·refine⟨0,List.replicate ((aC y).length+1) 0,0,by omega,⟨by omega,by simp,by simp,by simp,by simp,ab.refl.set (aS _) |>.up (by omega),by simp[D7],by simp,[],by simp,by simp,by simp[val],by decide,by simp[Dg]⟩⟩
  ·rintro m r ⟨H,n1,W⟩ hr hf ⟨k,o,c,rfl,hk,jy,h6,hn,hW,hK,hN,ho,d,hd⟩
   simp only at hn hW hK hN
   subst hn
   rw[bA]
   by_cases aD:k<(aC y).length
   ·obtain⟨i1,o1,c1,e1,w1,p1,p2,p3,p4⟩:=hy.at (eW (dk aD))
    have p3:=(hK.get _ p2).trans p3
    obtain⟨d1,d2,d3,d4,d5⟩:=hd
    have iB:=Zc (x:=aC y) (y:=aC x) (dk aD) d1 d2 d3 d4 d5 (oY y) (oY x)
    by_cases nR:k<(aC x).length
    ·obtain⟨i2,o2,c2,e2,w2,q1,q2,q3,q4⟩:=hx.at (eW (dk nR))
     have q3:=(hK.get _ q2).trans q3
     have hz:dz (aC x) k=(aC x)[k]:=by simp[dz,dk nR]
     rw[hz]at iB
     simp(disch:=first|(simp;done)|omega|(simp only[bl,bG,bh];omega)|rfl) [A.fl,hr,jy,h6,aD,nR,ly,lx,p1,p3,p4,q1,q3,q4,hN,nU,hf]
     exact⟨_,by omega,k+1,_,_,rfl,⟨by omega,by simp,by simp,rfl,by simp[hW],hK.set (aS _),by simp,by simp[ho],_,iB⟩⟩
    ·have hz:dz (aC x) k=0:=by simp[dz,gJ (uV.1 nR)]
     rw[hz]at iB
     simp(disch:=first|(simp;done)|omega|(simp only[bl,bG,bh];omega)|rfl) [A.fl,hr,jy,h6,aD,nR,ly,lx,p1,p3,p4,hN,nU,hf]
     exact⟨_,by omega,k+1,_,_,rfl,⟨by omega,by simp,by simp,rfl,by simp[hW],hK.set (aS _),by simp,by simp[ho],_,iB⟩⟩
   ·have Jo:k=(aC y).length:=by omega
    subst Jo
    simp[A.fl,hr,jy,hf]
    exact⟨o,c,⟨by omega,by simp[jy],by simp[h6],rfl,by simp[hW],hK,hN,ho,d,hd⟩⟩
  ·rintro _ r ⟨H,n1,W⟩ hr ⟨rfl,o,c,hk,jy,h6,hn,hW,hK,hN,ho,d,d1,d2,d3,d4,d5⟩
   simp only at hn hW hK hN
   subst hn
   simp(disch:=first|(simp;done)|omega|(simp only[bl,bG,bh];omega)|rfl) [hr,h6,ly,hN,nU]
   refine ax (AA (l:=o.set (aC y).length c) (Sl.row (e:=214) (rw:=true) (by omega) (by simp) (by simp[ho]) (by simp)) (by simp[ho];omega)) ?_
   intro v' h' n' eQ hs
   simp[aA]
   refine⟨hW,(hK.set (aS _)).trans eQ,?_⟩
   rw[Zd (by omega) d1 d2 d3 d4 d5]at hs
   exact(Nat.add_comm y x▸hs)
 ·simp(disch:=first|(simp;done)|omega|(simp only[bl,bG,bh];omega)|rfl) [A.b249,lx,ly,hl]
  refine bQ [(6,8),(22,46)] (fun e r st=>e=.exit 0/\Zb h N x y r st) (Za h N x y) (aC x).length ?_ ?_ ?_
  ·refine⟨0,List.replicate ((aC x).length+1) 0,0,by omega,⟨by omega,by simp,by simp,by simp,by simp,ab.refl.set (aS _) |>.up (by omega),by simp[D7],by simp,[],by simp,by simp,by simp[val],by decide,by simp[Dg]⟩⟩
  ·rintro m r ⟨H,n1,W⟩ hr hf ⟨k,o,c,rfl,hk,jy,h6,hn,hW,hK,hN,ho,d,hd⟩
   simp only at hn hW hK hN
   subst hn
   rw[bA]
   by_cases aD:k<(aC x).length
   ·obtain⟨i1,o1,c1,e1,w1,p1,p2,p3,p4⟩:=hx.at (eW (dk aD))
    have p3:=(hK.get _ p2).trans p3
    obtain⟨d1,d2,d3,d4,d5⟩:=hd
    have iB:=Zc (x:=aC x) (y:=aC y) (dk aD) d1 d2 d3 d4 d5 (oY x) (oY y)
    by_cases nR:k<(aC y).length
    ·obtain⟨i2,o2,c2,e2,w2,q1,q2,q3,q4⟩:=hy.at (eW (dk nR))
     have q3:=(hK.get _ q2).trans q3
     have hz:dz (aC y) k=(aC y)[k]:=by simp[dz,dk nR]
     rw[hz]at iB
     simp(disch:=first|(simp;done)|omega|(simp only[bl,bG,bh];omega)|rfl) [A.fl,hr,jy,h6,aD,nR,lx,ly,p1,p3,p4,q1,q3,q4,hN,nU,hf]
     exact⟨_,by omega,k+1,_,_,rfl,⟨by omega,by simp,by simp,rfl,by simp[hW],hK.set (aS _),by simp,by simp[ho],_,iB⟩⟩
    ·have hz:dz (aC y) k=0:=by simp[dz,gJ (uV.1 nR)]
     rw[hz]at iB
     simp(disch:=first|(simp;done)|omega|(simp only[bl,bG,bh];omega)|rfl) [A.fl,hr,jy,h6,aD,nR,lx,ly,p1,p3,p4,hN,nU,hf]
     exact⟨_,by omega,k+1,_,_,rfl,⟨by omega,by simp,by simp,rfl,by simp[hW],hK.set (aS _),by simp,by simp[ho],_,iB⟩⟩
   ·have Jo:k=(aC x).length:=by omega
    subst Jo
    simp[A.fl,hr,jy,hf]
    exact⟨o,c,⟨by omega,by simp[jy],by simp[h6],rfl,by simp[hW],hK,hN,ho,d,hd⟩⟩
  ·rintro _ r ⟨H,n1,W⟩ hr ⟨rfl,o,c,hk,jy,h6,hn,hW,hK,hN,ho,d,d1,d2,d3,d4,d5⟩
   simp only at hn hW hK hN
   subst hn
   simp(disch:=first|(simp;done)|omega|(simp only[bl,bG,bh];omega)|rfl) [hr,h6,lx,hN,nU]
   refine ax (AA (l:=o.set (aC x).length c) (Sl.row (e:=214) (rw:=true) (by omega) (by simp) (by simp[ho]) (by simp)) (by simp[ho];omega)) ?_
   intro v' h' n' eQ hs
   simp[aA]
   refine⟨hW,(hK.set (aS _)).trans eQ,?_⟩
   rw[Zd (by omega) d1 d2 d3 d4 d5]at hs
   exact hs
set_option maxHeartbeats 2000000
def A.ky:aq:=sr [bi 15 .lss 14 13]
 (.seq (cd 15
 (.skip)
 (.exit 0))
 (.seq (.block 1 (sr [mv 16 14,mv 7 16]
 (sr [⟨(some 8),.aY (.const (.int .u64 0)),none⟩]
 (.seq (sr [mv 17 7,mv 18 1,ln 19 18,bi 20 .lss 17 19]
 (cd 20
 (.aM [mv 21 1,mv 22 7,ia 23 1 21 22,ld 24 23,mv 8 24])
 (.skip)))
 (.aM [mv 26 5,mv 27 7,mv 28 0,mv 29 7,ia 30 1 28 29,ld 31 30,mv 32 8,mv 33 6,⟨(some 34),.ext .gQ [(.tmp 31),(.tmp 32),(.tmp 33)],none⟩,mv 25 34,xt 35 25 0,xt 36 25 1,ia 37 1 26 27,so 37 35,mv 6 36])))))
 (.aM [bc 38 .add 14 1,mv 14 38])))
def A.b251:aq:=sr [mN 4]
 (sr [mv 9 0,ln 10 9,⟨(some 11),.bO 214 1 8 [(.int .u64 0)] (.tmp 10) (.tmp 10),none⟩,mv 5 11]
 (sr [⟨(some 6),.aY (.const (.int .u64 0)),none⟩]
 (.seq (sr [mv 12 0,ln 13 12,mc 14 0]
 (.block 0 (.loop A.ky)))
 (sr [mv 39 5,c1 40 263 39,mv 4 40]
 (.ret)))))
theorem A.c251:A.F 251=some ⟨41,[.tmp 4],A.b251⟩:=by kernel_rfl
def A.k251:=@A.kk 251 _ _ _ A.c251 rfl
theorem Cd{a b:Nat}(h:a<=b):(aC a).length<=(aC b).length:=by
 apply vN
 intro hc
 have h1:=Cb (b:=B) (oY b)
 rw[kv]at h1
 have h2:∀n,n≠0->B^((aC n).length-1)<=n:=by
  intro n
  induction n using Nat.strongRecOn with
  |_ n ih=>
   intro hn
   rw[ku hn]
   by_cases h0:n/B=0
   ·rw[h0,oX];simp;omega
   ·have:=ih (n/B) (zJ (by omega) (by decide)) h0
    have hp:0<(aC (n/B)).length:=by rw[ku h0];simp
    simp only[bh,Nat.add_sub_cancel]
    rw[show (aC (n/B)).length=((aC (n/B)).length-1)+1 by omega,fL]
    have h3:B^((aC (n/B)).length-1)*B<=n/B*B:=jn B this
    have:=Nat.div_mul_le_self n B
    omega
 have ha:a≠0:=by
  rintro rfl
  rw[oX]at hc;simp at hc
 have h3:=h2 a ha
 have h4:B^(aC b).length<=B^((aC a).length-1):=qx (by decide) (by omega)
 omega
structure Ze (h:T O) (N x y k:Nat) (o:List Nat) (c:Nat) (r:T V) (st:St):Prop where
 hk:k<=(aC x).length
 GP:r.get 14=some (.int .i64 k)
 r6:r.get 6=some (.int .u64 c)
 n:st.n=N+1
 w:ad N st.w=[]
 ae:ab h N st.h (N+1)
 row:st.h.get N=some (.cells (dg o) 214 true)
 len:o.length=(aC x).length
 ex:∃d,d.length=k/\o=d++List.replicate ((aC x).length-k) 0/\val B d+val B ((aC y).take k)=val B ((aC x).take k)+B^k*c/\c<=1/\Dg d
def Yss(h:T O)(N x y m:Nat)(r:T V)(st:St):Prop:=∃k o c,m=(aC x).length-k/\Ze h N x y k o c r st
def Yst(h:T O)(N x y:Nat)(r:T V)(st:St):Prop:=∃o c,Ze h N x y (aC x).length o c r st
theorem Yjg{x y o d:List Nat}{k c xk:Nat}(hx:x[k]?=some xk)(d1:d.length=k)(d2:o=d++List.replicate (x.length-k) 0)(d3:val B d+val B (y.take k)=val B (x.take k)+B^k*c)(d4:c<=1)(d5:Dg d)(gx:Dg x)(gy:Dg y):
  (d++[dS xk (dz y k) c]).length=k+1/\o.set k (dS xk (dz y k) c)=(d++[dS xk (dz y k) c])++List.replicate (x.length-(k+1)) 0/\val B (d++[dS xk (dz y k) c])+val B (y.take (k+1))=val B (x.take (k+1))+B^(k+1)*fe xk (dz y k) c/\fe xk (dz y k) c<=1/\Dg (d++[dS xk (dz y k) c]):=by
 have hk:k<x.length:=by
  apply qd;intro hc;rw[gJ hc]at hx;cases hx
 have hxk:=gx.get hx
 have hyk:=YX gy k
 have hs:dS xk (dz y k) c+dz y k+c=xk+B*fe xk (dz y k) c/\dS xk (dz y k) c<B/\fe xk (dz y k) c<=1:=by
  unfold dS fe
  unfold B at*
  split<;>omega
 refine⟨by simp[d1],?_,?_,hs.2.2,?_⟩
 ·rw[d2,show x.length-k=(x.length-(k+1))+1 by omega,Ti d1]
 ·rw[MW,Ay,Ay,d1,show dz x k=xk by simp[dz,hx],fL]
  have h1:=hs.1
  generalize dS xk (dz y k) c=s at*
  generalize fe xk (dz y k) c=b at*
  generalize B^k=p at*
  have:p*(s+dz y k+c)=p*(xk+B*b):=by rw[h1]
  grind
 ·intro e he
  rcases oF.1 he with he|he
  ·exact d5 e he
  ·simp at he;subst he;exact hs.2.1
theorem Ynh{x y:Nat}{o d:List Nat}{c:Nat}(hl:y<=x)(d1:d.length=(aC x).length)(d2:o=d++List.replicate ((aC x).length-(aC x).length) 0)(d3:val B d+val B ((aC y).take (aC x).length)=val B ((aC x).take (aC x).length)+B^(aC x).length*c)(d4:c<=1)(d5:Dg d):qk o=aC (x-y):=by
 rw[d2,Nat.sub_self]
 simp only[List.replicate_zero,uT]
 rw[Az d5]
 congr 1
 rw[eF (aS _),eF (Cd hl),kv,kv]at d3
 have:=Cb d5
 rw[d1]at this
 rcases Nat.lt_or_ge c 1 with hc|hc
 ·have:c=0:=by omega
  subst this
  simp at d3;omega
 ·have:c=1:=by omega
  subst this
  omega
theorem Zf{h:T O}{N:Nat}{vx vy:V}{x y:Nat}(hx:Wn h N vx x)(hy:Wn h N vy y)(M0:y<=x)(Ah:(aC x).length<1099511627776)(ID:(aC y).length<1099511627776):Fn A.C 251 [vx,vy] h N (fun v' h' N'=>Wn h' N' v' (x-y)):=by
 intro w
 have lx:=hx.len
 have ly:=hy.len
 rw[bl]at lx ly
 rw[aR,A.k251 (by simp)]
 simp(disch:=first|(simp;done)|omega|(simp only[bl,bG,bh];omega)|rfl) [A.b251,lx]
 refine bQ [(6,8),(14,38)] (fun e r st=>e=.exit 0/\Yst h N x y r st) (Yss h N x y) (aC x).length ?_ ?_ ?_
 ·refine⟨0,List.replicate (aC x).length 0,0,by omega,⟨by omega,by simp,by simp,by simp,by simp,ab.refl.set (aS _) |>.up (by omega),by simp[D7],by simp,[],by simp,by simp,by simp[val],by decide,by simp[Dg]⟩⟩
 ·rintro m r ⟨H,n1,W⟩ hr hf ⟨k,o,c,rfl,hk,jy,h6,hn,hW,hK,hN,ho,d,hd⟩
  simp only at hn hW hK hN
  subst hn
  rw[bA]
  by_cases aD:k<(aC x).length
  ·obtain⟨i1,o1,c1,e1,w1,p1,p2,p3,p4⟩:=hx.at (eW (dk aD))
   have p3:=(hK.get _ p2).trans p3
   obtain⟨d1,d2,d3,d4,d5⟩:=hd
   have iB:=Yjg (x:=aC x) (y:=aC y) (dk aD) d1 d2 d3 d4 d5 (oY x) (oY y)
   by_cases nR:k<(aC y).length
   ·obtain⟨i2,o2,c2,e2,w2,q1,q2,q3,q4⟩:=hy.at (eW (dk nR))
    have q3:=(hK.get _ q2).trans q3
    have hz:dz (aC y) k=(aC y)[k]:=by simp[dz,dk nR]
    rw[hz]at iB
    simp(disch:=first|(simp;done)|omega|(simp only[bl,bG,bh];omega)|rfl) [A.ky,hr,jy,h6,aD,nR,lx,ly,p1,p3,p4,q1,q3,q4,hN,nU,hf]
    exact⟨_,by omega,k+1,_,_,rfl,⟨by omega,by simp,by simp,rfl,by simp[hW],hK.set (aS _),by simp,by simp[ho],_,iB⟩⟩
   ·have hz:dz (aC y) k=0:=by simp[dz,gJ (uV.1 nR)]
    rw[hz]at iB
    simp(disch:=first|(simp;done)|omega|(simp only[bl,bG,bh];omega)|rfl) [A.ky,hr,jy,h6,aD,nR,lx,ly,p1,p3,p4,hN,nU,hf]
    exact⟨_,by omega,k+1,_,_,rfl,⟨by omega,by simp,by simp,rfl,by simp[hW],hK.set (aS _),by simp,by simp[ho],_,iB⟩⟩
  ·have Jo:k=(aC x).length:=by omega
   subst Jo
   simp[A.ky,hr,jy,hf]
   exact⟨o,c,⟨by omega,by simp[jy],by simp[h6],rfl,by simp[hW],hK,hN,ho,d,hd⟩⟩
 ·rintro _ r ⟨H,n1,W⟩ hr ⟨rfl,o,c,hk,jy,h6,hn,hW,hK,hN,ho,d,d1,d2,d3,d4,d5⟩
  simp only at hn hW hK hN
  subst hn
  simp[hr]
  refine ax (AA (l:=o) (Sl.row (e:=214) (rw:=true) (by omega) (by simp[hN]) (by simp[ho]) (by simp)) (by simp[ho];omega)) ?_
  intro v' h' n' eQ hs
  simp[aA]
  refine⟨hW,hK.trans eQ,?_⟩
  rw[Ynh M0 d1 d2 d3 d4 d5]at hs
  exact hs
set_option maxHeartbeats 2000000
def A.iT:aq:=.seq (sr [mv 19 5,bc 20 .geq 19 0]
 (cd 20
 (.skip)
 (.exit 0)))
 (.seq (.block 1 (.seq (.aV [mv 23 0,mv 24 5,ia 25 1 23 24,ld 26 25,mv 27 1,mv 28 5,ia 29 1 27 28,ld 30 29,⟨(some 31),.bin .neq (.aI .int) false (.tmp 26) (.tmp 30),none⟩] [0,0,3,7,0,0,48,112,255])
 (cd 31
 (.seq (.seq (.aV [mv 32 0,mv 33 5,ia 34 1 32 33,ld 35 34,mv 36 1,mv 37 5,ia 38 1 36 37,ld 39 38,bi 40 .lss 35 39] [0,0,3,7,0,0,48,112,255])
 (cd 40
 (sr [⟨(some 4),.aY (.const (.int .i64 (-1))),none⟩]
 (.ret))
 (.skip)))
 (sr [mc 4 1]
 (.ret)))
 (.skip))))
 (.aM [mv 21 5,bc 22 .sub 21 1,mv 5 22]))
def A.b250:aq:=sr [mc 4 0]
 (.seq (sr [mv 6 0,ln 7 6,mv 8 1,ln 9 8,⟨(some 10),.bin .neq (.aI .int) false (.tmp 7) (.tmp 9),none⟩]
 (cd 10
 (.seq (sr [mv 11 0,ln 12 11,mv 13 1,ln 14 13,bi 15 .lss 12 14]
 (cd 15
 (sr [⟨(some 4),.aY (.const (.int .i64 (-1))),none⟩]
 (.ret))
 (.skip)))
 (sr [mc 4 1]
 (.ret)))
 (.skip)))
 (.seq (sr [mv 16 0,ln 17 16,bc 18 .sub 17 1,mv 5 18]
 (.block 0 (.loop A.iT)))
 (sr [mc 4 0]
 (.ret))))
theorem A.c250:A.F 250=some ⟨41,[.tmp 4],A.b250⟩:=by kernel_rfl
def A.k250:=@A.kk 250 _ _ _ A.c250 rfl
def sH(x y:Int):Int:=if x<y then -1 else if y<x then 1 else 0
theorem Zg{x y:Nat}(h:(aC x).length<(aC y).length):x<y:=by
 apply qd
 intro hc
 have:=Cd hc
 omega
theorem M1{b:Nat}{l:List Nat}{k d:Nat}(h:l[k]?=some d):val b (l.drop k)=d+b*val b (l.drop (k+1)):=by
 have hk:k<l.length:=by
  apply qd;intro hc;rw[gJ hc]at h;cases h
 rw[CV hk]
 rw[dk hk]at h
 simp only[aj]at h
 rw[h];rfl
theorem Zh(b:Nat)(l:List Nat)(k:Nat)(hk:k<=l.length):val b l=val b (l.take k)+b^k*val b (l.drop k):=by
 have:=MV b (l.take k) (l.drop k)
 rw[yD,fR,nA hk]at this
 exact this
theorem Zi{x y:List Nat}{k:Nat}(gx:Dg x)(hx:k<=x.length)(hy:k<=y.length)(h:val B (x.drop k)<val B (y.drop k)):val B x<val B y:=by
 rw[Zh B x k hx,Zh B y k hy]
 have h1:val B (x.take k)<B^k:=by
  have:=Cb (b:=B) (l:=x.take k) fun d hd=>gx d (rQ hd)
  rwa [fR,nA hx]at this
 have h2:B^k*(val B (x.drop k)+1)<=B^k*val B (y.drop k):=jo _ h
 rw[qy]at h2
 omega
structure Zj (h:T O) (N x y m:Nat) (r:T V) (st:St):Prop where
 hm:m<=(aC x).length
 r5:r.get 5=some (.int .i64 ((m:Int)-1))
 n:st.n=N
 w:st.w=[]
 ae:ab h N st.h N
 top:(aC x).drop m=(aC y).drop m
theorem Zk{h:T O}{N:Nat}{vx vy:V}{x y:Nat}(hx:Wn h N vx x)(hy:Wn h N vy y)(Ah:(aC x).length<1099511627776)(ID:(aC y).length<1099511627776):Fn A.C 250 [vx,vy] h N (fun v' h' N'=>v'=.int .i64 (sH x y)):=by
 intro w
 have lx:=hx.len
 have ly:=hy.len
 rw[bl]at lx ly
 rw[aR,A.k250 (by simp)]
 by_cases bJ:(aC x).length=(aC y).length
 ·have Tn:((aC x).length:Int)=((aC y).length:Int):=by omega
  simp(disch:=omega) [A.b250,lx,ly,bJ]
  refine bQ [(4,5),(19,40)] (fun e r st=>(e=.exit 0/\Zj h N x y 0 r st)\/(e=.ret/\r.get 4=some (.int .i64 (sH x y))/\st.n=N/\st.w=[]/\ab h N st.h N)) (Zj h N x y) (aC x).length ?_ ?_ ?_
  ·exact⟨by omega,by simp[bJ],rfl,rfl,ab.refl,by rw[og,bJ,og]⟩
  ·rintro m r ⟨H,n1,W⟩ hr hf ⟨hm,h5,hn,hW,hK,ht⟩
   simp only at hn hW hK
   subst hn;subst hW
   rw[bA]
   cases m with
   |zero=>
    simp[A.iT,h5,hf]
    exact⟨by omega,by simp[h5],rfl,rfl,hK,ht⟩
   |succ m=>
    have di:m<(aC x).length:=by omega
    have SA:m<(aC y).length:=by omega
    have To:r.get 5=some (.int .i64 (m:Int)):=by rw[h5];congr 2;omega
    have gx:=dk di
    have gy:=dk SA
    obtain⟨i1,o1,c1,e1,w1,p1,p2,p3,p4⟩:=hx.at (eW gx)
    have p3:=(hK.get _ p2).trans p3
    obtain⟨i2,o2,c2,e2,w2,q1,q2,q3,q4⟩:=hy.at (eW gy)
    have q3:=(hK.get _ q2).trans q3
    rcases Nat.lt_trichotomy (aC x)[m] (aC y)[m]with aD|heq|Gy
    ·have dr:x<y:=by
      have:=Zi (x:=aC x) (y:=aC y) (k:=m) (oY x) (by omega) (by omega) (by rw[M1 gx,M1 gy,ht];omega)
      rwa [kv,kv]at this
     have oZ:¬(aC x)[m]=(aC y)[m]:=by omega
     simp(disch:=first|(simp;done)|omega|(simp only[bl,bG,bh];omega)|rfl) [A.iT,To,hr,hf,lx,ly,p1,p2,p3,p4,q1,q2,q3,q4,oZ,aD]
     exact⟨by simp[sH,dr],hK⟩
    ·have Jp:(aC x).drop m=(aC y).drop m:=by rw[CV di,CV SA,ht,heq]
     simp(disch:=first|(simp;done)|omega|(simp only[bl,bG,bh];omega)|rfl) [A.iT,To,hr,hf,lx,ly,p1,p2,p3,p4,q1,q2,q3,q4,heq]
     exact⟨m,by omega,⟨by omega,by simp,rfl,rfl,hK,Jp⟩⟩
    ·have dr:y<x:=by
      have:=Zi (x:=aC y) (y:=aC x) (k:=m) (oY y) (by omega) (by omega) (by rw[M1 gx,M1 gy,ht];omega)
      rwa [kv,kv]at this
     have oZ:¬(aC x)[m]=(aC y)[m]:=by omega
     have aD:¬(aC x)[m]<(aC y)[m]:=by omega
     have Ea:¬x<y:=by omega
     simp(disch:=first|(simp;done)|omega|(simp only[bl,bG,bh];omega)|rfl) [A.iT,To,hr,hf,lx,ly,p1,p2,p3,p4,q1,q2,q3,q4,oZ,aD]
     exact⟨by simp[sH,dr,Ea],hK⟩
  ·rintro e r ⟨H,n1,W⟩ hr (⟨rfl,hm,h5,hn,hW,hK,ht⟩|⟨rfl,h4,hn,hW,hK⟩)
   ·simp only at hn hW hK
    subst hn;subst hW
    simp only[yF]at ht
    have:x=y:=by rw[<-kv x,ht,kv]
    subst this
    simp[aA]
    exact⟨hK,by simp[sH]⟩
   ·simp only at hn hW hK
    subst hn;subst hW
    simp[h4,aA]
    exact hK
 ·have Tn:¬((aC x).length:Int)=((aC y).length:Int):=by omega
  by_cases aD:(aC x).length<(aC y).length
  ·have:=Zg aD
   simp[A.b250,lx,ly,bJ,aD,aA]
   exact⟨ab.refl,by simp[sH,this]⟩
  ·have h1:=Zg (x:=y) (y:=x) (by omega)
   have h2:¬x<y:=by omega
   simp[A.b250,lx,ly,bJ,aD,aA]
   exact⟨ab.refl,by simp[sH,h1,h2]⟩
set_option maxHeartbeats 4000000
def A.o8:aq:=sr [bi 30 .lss 29 28]
 (.seq (cd 30
 (.skip)
 (.exit 2))
 (.seq (.block 3 (sr [mv 31 29,ia 32 1 27 29,ld 33 32,mv 9 31,mv 10 33]
 (sr [mv 35 7,mv 36 10,c2 37 220 35 36,mv 34 37,xt 38 34 0,xt 39 34 1,mv 11 38,mv 12 39]
 (sr [⟨(some 13),.aY (.const (.int .u64 0)),none⟩]
 (sr [mv 41 12,mv 42 5,mv 43 6,mv 44 9,bi 45 .add 43 44,ia 46 1 42 45,ld 47 46,⟨(some 48),.ext .eJ [(.tmp 41),(.tmp 47),(.const (.int .u64 0))],none⟩,mv 40 48,xt 49 40 0,xt 50 40 1,mv 12 49,mv 13 50]
 (sr [mv 51 11,mv 52 13,bi 53 .add 51 52,mv 11 53]
 (sr [mv 55 12,mv 56 8,⟨(some 57),.ext .eJ [(.tmp 55),(.tmp 56),(.const (.int .u64 0))],none⟩,mv 54 57,xt 58 54 0,xt 59 54 1,mv 12 58,mv 13 59]
 (.aM [mv 60 5,mv 61 6,mv 62 9,bi 63 .add 61 62,mv 64 12,mv 65 11,mv 66 13,bi 67 .add 65 66,ia 68 1 60 63,so 68 64,mv 8 67]))))))))
 (.aM [bc 69 .add 29 1,mv 29 69])))
def A.o9:aq:=sr [bi 23 .lss 22 21]
 (.seq (cd 23
 (.skip)
 (.exit 0))
 (.seq (.block 1 (sr [mv 24 22,ia 25 1 20 22,ld 26 25,mv 6 24,mv 7 26]
 (sr [⟨(some 8),.aY (.const (.int .u64 0)),none⟩]
 (.seq (sr [mv 27 1,ln 28 27,mc 29 0]
 (.block 2 (.loop A.o8)))
 (.aM [mv 70 5,mv 71 6,mv 72 1,ln 73 72,bi 74 .add 71 73,mv 75 8,ia 76 1 70 74,so 76 75])))))
 (.aM [bc 77 .add 22 1,mv 22 77])))
def A.b224:aq:=sr [mN 4]
 (sr [mv 14 0,ln 15 14,mv 16 1,ln 17 16,bi 18 .add 15 17,⟨(some 19),.bO 214 1 8 [(.int .u64 0)] (.tmp 18) (.tmp 18),none⟩,mv 5 19]
 (.seq (sr [mv 20 0,ln 21 20,mc 22 0]
 (.block 0 (.loop A.o9)))
 (sr [mv 78 5,c1 79 263 78,mv 4 79]
 (.ret))))
theorem A.c224:A.F 224=some ⟨80,[.tmp 4],A.b224⟩:=by kernel_rfl
def A.k224:=@A.kk 224 _ _ _ A.c224 rfl
theorem Jq{b:Nat}:∀{l:List Nat} {k old v:Nat},l[k]?=some old->val b (l.set k v)+b^k*old=val b l+b^k*v
 |[],k,old,v,h=>by simp at h
 |d::l,0,old,v,h=>by simp at h;subst h;simp[val];omega
 |d::l,k+1,old,v,h=>by
  have ih:=Jq (b:=b) (l:=l) (k:=k) (old:=old) (v:=v) (by simpa using h)
  simp only[List.set_cons_succ,val,fL]
  generalize val b (l.set k v)=p at*
  generalize val b l=q at*
  generalize b^k=z at*
  have:b*(p+z*old)=b*(q+z*v):=by rw[ih]
  grind
theorem Dg.set{l:List Nat}(h:Dg l){k v:Nat}(hv:v<B):Dg (l.set k v):=by
 intro d hd
 rcases A8 hd with hd|hd
 ·exact h d hd
 ·subst hd;exact hv
def fm(x y o c:Nat):Nat:=bz (bz (bz (x*y)+o)+c)
def ij(x y o c:Nat):Nat:=cy (cy (bX (x*y)) (bX (bz (x*y)+o))) (bX (bz (bz (x*y)+o)+c))
theorem Yfr{x y o c:Nat}(hx:x<B)(hy:y<B)(ho:o<B)(hc:c<B):fm x y o c+B*ij x y o c=x*y+o+c/\fm x y o c<B/\ij x y o c<B:=by
 have:x*y<=18446744073709551615*18446744073709551615:=uR (by unfold B at*;omega) (by unfold B at*;omega)
 unfold fm ij bz bX cy
 unfold B at*
 generalize x*y=p at*
 omega
structure Zl (h:T O) (N x y i j:Nat) (o:List Nat) (c xi:Nat) (r:T V) (st:St):Prop where
 hj:j<=(aC y).length
 r29:r.get 29=some (.int .i64 j)
 r8:r.get 8=some (.int .u64 c)
 n:st.n=N+1
 w:ad N st.w=[]
 ae:ab h N st.h (N+1)
 row:st.h.get N=some (.cells (dg o) 214 true)
 len:o.length=(aC x).length+(aC y).length
 dg:Dg o
 zero:∀t,i+(aC y).length<=t->t<o.length->o[t]?=some 0
 lc:c<B
 ex:val B o+B^(i+j)*c=val B ((aC x).take i)*y+B^i*(xi*val B ((aC y).take j))
def Ysu(h:T O)(N x y i xi m:Nat)(r:T V)(st:St):Prop:=∃j o c,m=(aC y).length-j/\Zl h N x y i j o c xi r st
def Ysv(h:T O)(N x y i xi:Nat)(r:T V)(st:St):Prop:=∃o c,Zl h N x y i (aC y).length o c xi r st
structure Zm (h:T O) (N x y i:Nat) (o:List Nat) (r:T V) (st:St):Prop where
 hi:i<=(aC x).length
 r22:r.get 22=some (.int .i64 i)
 n:st.n=N+1
 w:ad N st.w=[]
 ae:ab h N st.h (N+1)
 row:st.h.get N=some (.cells (Go.Mx.dg o) 214 true)
 len:o.length=(aC x).length+(aC y).length
 dg:Dg o
 zero:∀t,i+(aC y).length<=t->t<o.length->o[t]?=some 0
 ex:val B o=val B ((aC x).take i)*y
def Yq6(h:T O)(N x y m:Nat)(r:T V)(st:St):Prop:=∃i o,m=(aC x).length-i/\Zm h N x y i o r st
def Yq7(h:T O)(N x y:Nat)(r:T V)(st:St):Prop:=∃o,Zm h N x y (aC x).length o r st
theorem Zty{h:T O}{N:Nat}{vx vy:V}{x y:Nat}(hx:Wn h N vx x)(hy:Wn h N vy y)(Ah:(aC x).length<1099511627776)(ID:(aC y).length<1099511627776):Fn A.C 224 [vx,vy] h N (fun v' h' N'=>Wn h' N' v' (x*y)):=by
 intro w
 have lx:=hx.len
 have ly:=hy.len
 rw[bl]at lx ly
 rw[aR,A.k224 (by simp)]
 simp(disch:=first|(simp;done)|omega|(simp only[bl,bG,bh];omega)|rfl) [A.b224,lx,ly]
 refine bQ [(6,13),(22,77)] (fun e r st=>e=.exit 0/\Yq7 h N x y r st) (Yq6 h N x y) (aC x).length ?_ ?_ ?_
 ·refine⟨0,List.replicate ((aC x).length+(aC y).length) 0,by omega,⟨by omega,by simp,by simp,by simp,ab.refl.set (aS _) |>.up (by omega),?_,by simp,?_,?_,by simp[val,YW]⟩⟩
  ·simp[D7]
  ·intro d hd
   rw[FV]at hd
   rw[hd.2];decide
  ·intro t _ ht
   simp at ht
   simp[ht]
 ·rintro m r ⟨H,n1,W⟩ hr hf ⟨i,o,rfl,hi,jy,hn,hW,hK,hN,ho,hd,hz,he⟩
  simp only at hn hW hK hN
  subst hn
  rw[bA]
  by_cases aD:i<(aC x).length
  ·obtain⟨i1,o1,c1,e1,w1,p1,p2,p3,p4⟩:=hx.at (eW (dk aD))
   have p3:=(hK.get _ p2).trans p3
   have gx:=dk aD
   generalize (aC x)[i]=xi at*
   simp[A.o9,hr,jy,aD,lx,ly,p1,p3,p4]
   refine bQ [(8,13),(29,69)] (fun e r st=>e=.exit 2/\Ysv h N x y i xi r st) (Ysu h N x y i xi) (aC y).length ?_ ?_ ?_
   ·exact⟨0,o,0,by omega,⟨by omega,by simp,by simp,rfl,hW,hK,hN,ho,hd,hz,by decide,by simp[val,he]⟩⟩
   ·rintro m r2 ⟨H2,n2,W2⟩ ew fI ⟨j,o2,c,rfl,hj,Jr,h8,ft,eE,fu,wj,uQ,nL,cX,Gz,sA⟩
    simp only at ft eE fu wj
    subst ft
    rw[bA]
    have hi:xi<B:=(oY x).get gx
    by_cases dr:j<(aC y).length
    ·obtain⟨i2,o3,c3,e3,w3,q1,q2,q3,q4⟩:=hy.at (eW (dk dr))
     have q3:=(fu.get _ q2).trans q3
     have gy:=dk dr
     generalize (aC y)[j]=yj at*
     have Zn:yj<B:=(oY y).get gy
     have go:=dk (l:=o2) (i:=i+j) (by omega)
     generalize o2[i+j]'(by omega)=ov at*
     simp[A.o8,ew,Jr,dr,ly,q1,q3,q4]
     refine ax (Js hi Zn) ?_
     rintro _ _ _ zj ⟨rfl,rfl,rfl⟩
     simp(disch:=first|(simp;done)|omega|(simp only[bl,bG,bh];omega)|rfl) [-getElem?_pos,hr,ew,Jr,h8,fI,wj,eW go,nU]
     obtain⟨m1,m2,m3⟩:=Yfr hi Zn (nL.get go) Gz
     refine⟨_,by omega,j+1,o2.set (i+j) (fm xi yj ov c),ij xi yj ov c,rfl,⟨by omega,by simp,?_,rfl,by simp[eE],fu.set (aS _),?_,by simp[uQ],nL.set m2,?_,m3,?_⟩⟩
     ·simp[ij]
     ·simp[fm]
     ·intro t t1 t2
      rw[eI (by omega)]
      exact cX t t1 (by simpa using t2)
     ·have v1:=Jq (b:=B) (v:=fm xi yj ov c) go
      rw[Ca gy]
      have e1:B^(i+(j+1))=B^(i+j)*B:=by rw[show i+(j+1)=(i+j)+1 by omega,fL]
      have e2:B^i*(xi*(B^j*yj))=B^(i+j)*(xi*yj):=by rw[jH];grind
      have e3:B^(i+j)*(fm xi yj ov c+B*ij xi yj ov c)=B^(i+j)*(xi*yj+ov+c):=by rw[m1]
      rw[e1]
      generalize val B (List.set o2 (i+j) (fm xi yj ov c))=z1 at*
      generalize val B o2=z2 at*
      generalize fm xi yj ov c=z3 at*
      generalize ij xi yj ov c=z4 at*
      generalize val B (List.take j (aC y))=z5 at*
      generalize B^(i+j)=z6 at*
      grind
    ·have:j=(aC y).length:=by omega
     subst this
     simp[A.o8,ew,Jr,fI]
     exact⟨o2,c,⟨by omega,by simp[Jr],by simp[h8],rfl,eE,fu,wj,uQ,nL,cX,Gz,sA⟩⟩
   ·rintro e r2 ⟨H2,n2,W2⟩ ew ⟨rfl,o2,c,hj,Jr,h8,ft,eE,fu,wj,uQ,nL,cX,Gz,sA⟩
    simp only at ft eE fu wj
    subst ft
    have fI:=hf.inner (D':=[(8,13),(29,69)]) rfl (by simp) ew
    simp(disch:=first|(simp;done)|omega|(simp only[bl,bG,bh];omega)|rfl) [hr,ew,jy,h8,ly,wj,nU,fI]
    have rp:o2[i+(aC y).length]?=some 0:=cX _ (aS _) (by omega)
    refine⟨_,by omega,i+1,o2.set (i+(aC y).length) c,rfl,⟨by omega,by simp,rfl,by simp[eE],fu.set (aS _),by simp,by simp[uQ],nL.set Gz,?_,?_⟩⟩
    ·intro t t1 t2
     rw[eI (by omega)]
     exact cX t (by omega) (by simpa using t2)
    ·have v1:=Jq (b:=B) (v:=c) rp
     rw[eF (aS _),kv]at sA
     rw[Ca gx]
     simp only[Nat.mul_zero,re]at v1
     rw[v1,sA]
     grind
  ·have:i=(aC x).length:=by omega
   subst this
   simp[A.o9,hr,jy,hf]
   exact⟨o,⟨by omega,by simp[jy],rfl,hW,hK,hN,ho,hd,hz,he⟩⟩
 ·rintro _ r ⟨H,n1,W⟩ hr ⟨rfl,o,hi,jy,hn,hW,hK,hN,ho,hd,hz,he⟩
  simp only at hn hW hK hN
  subst hn
  simp[hr]
  refine ax (AA (l:=o) (Sl.row (e:=214) (rw:=true) (by omega) (by simp[hN]) (by simp[ho]) (by simp)) (by simp[ho];omega)) ?_
  intro v' h' n' eQ hs
  simp[aA]
  refine⟨hW,hK.trans eQ,?_⟩
  rw[eF (aS _),kv]at he
  rw[Az hd,he]at hs
  exact hs
variable {n:Nat}
set_option maxHeartbeats 2000000
def Zo:List UInt8:=[0,1,2,2,3,3,3,3,4,4,4,4,4,4,4,4,5,5,5,5,5,5,5,5,5,5,5,5,5,5,5,5,6,6,6,6,6,6,6,6,6,6,6,6,6,6,6,6,6,6,6,6,6,6,6,6,6,6,6,6,6,6,6,6,7,7,7,7,7,7,7,7,7,7,7,7,7,7,7,7,7,7,7,7,7,7,7,7,7,7,7,7,7,7,7,7,7,7,7,7,7,7,7,7,7,7,7,7,7,7,7,7,7,7,7,7,7,7,7,7,7,7,7,7,7,7,7,7,8,8,8,8,8,8,8,8,8,8,8,8,8,8,8,8,8,8,8,8,8,8,8,8,8,8,8,8,8,8,8,8,8,8,8,8,8,8,8,8,8,8,8,8,8,8,8,8,8,8,8,8,8,8,8,8,8,8,8,8,8,8,8,8,8,8,8,8,8,8,8,8,8,8,8,8,8,8,8,8,8,8,8,8,8,8,8,8,8,8,8,8,8,8,8,8,8,8,8,8,8,8,8,8,8,8,8,8,8,8,8,8,8,8,8,8,8,8,8,8,8,8,8,8,8,8,8,8]
def A.b268:aq:=sr [mc 2 0]
 (.seq (sr [mv 3 0,⟨(some 4),.bin .geq (.node []) false (.tmp 3) (.const (.int .u64 4294967296)),none⟩]
 (cd 4
 (sr [mv 5 0,⟨(some 6),.bin .shr (.node []) false (.tmp 5) (.const (.int .u64 32)),none⟩,mv 0 6]
 (.aM [mc 2 32]))
 (.skip)))
 (.seq (sr [mv 7 0,⟨(some 8),.bin .geq (.node []) false (.tmp 7) (.const (.int .u64 65536)),none⟩]
 (cd 8
 (sr [mv 9 0,⟨(some 10),.bin .shr (.node []) false (.tmp 9) (.const (.int .u64 16)),none⟩,mv 0 10]
 (.aM [mv 11 2,bc 12 .add 11 16,mv 2 12]))
 (.skip)))
 (.seq (sr [mv 13 0,⟨(some 14),.bin .geq (.node []) false (.tmp 13) (.const (.int .u64 256)),none⟩]
 (cd 14
 (sr [mv 15 0,⟨(some 16),.bin .shr (.node []) false (.tmp 15) (.const (.int .u64 8)),none⟩,mv 0 16]
 (.aM [mv 17 2,bc 18 .add 17 8,mv 2 18]))
 (.skip)))
 (sr [mv 19 2,mv 20 0,⟨(some 21),.bb .u8 (.tmp 20),none⟩,⟨(some 22),.aQ (.const (.str Zo)) (.tmp 21),none⟩,⟨(some 23),.bb .i64 (.tmp 22),none⟩,bi 24 .add 19 23,mv 2 24]
 (.ret)))))
theorem A.c268:A.F 268=some ⟨25,[.tmp 2],A.b268⟩:=by kernel_rfl
def A.k268:=@A.kk 268 _ _ _ A.c268 rfl
def A.b272:aq:=sr [mc 2 0]
 (sr [mv 3 0,c1 4 268 3,⟨(some 5),.bin .sub (.node []) false (.const (.int .i64 64)) (.tmp 4),none⟩,mv 2 5]
 (.ret))
theorem A.c272:A.F 272=some ⟨6,[.tmp 2],A.b272⟩:=by kernel_rfl
def A.k272:=@A.kk 272 _ _ _ A.c272 rfl
def ba(n:Nat):Nat:=if n=0 then 0 else Nat.log2 n+1
theorem M3(n:Nat):n<2^ba n:=by
 unfold ba
 split
 ·simp[*]
 ·exact Nat.lt_log2_self
theorem GQ(h:n≠0):2^(ba n-1)<=n:=by
 unfold ba
 rw[au h]
 exact Nat.log2_self_le h
theorem Ymi{k:Nat}(h1:2^k<=n)(h2:n<2^(k+1)):ba n=k+1:=by
 have hn:n≠0:=by have:=qz k;omega
 unfold ba
 rw[au hn]
 congr 1
 have h3:Nat.log2 n<k+1:=(Nat.log2_lt hn).2 h2
 have h4:k<=Nat.log2 n:=(Nat.le_log2 hn).2 h1
 omega
theorem wk{k:Nat}(h:2^k<=n):ba (al n k)+k=ba n:=by
 unfold al
 have h0:n/2^k≠0:=by
  have:=Nat.div_pos h (qz k);omega
 have h1:=M3 (n/2^k)
 have h2:=GQ h0
 have hp:0<ba (n/2^k):=by unfold ba;rw[au h0];omega
 have e:ba (n/2^k)+k=(ba (n/2^k)-1+k)+1:=by omega
 rw[e]
 symm
 apply Ymi
 ·rw[jH]
  exact p9 (jn _ h2) (Nat.div_mul_le_self n _)
 ·rw[show ba (n/2^k)-1+k+1=ba (n/2^k)+k by omega,jH]
  exact(nC (qz k)).1 h1
theorem Ce:∀{n:Nat},n<256->Zo[n]?=some (UInt8.ofNat (ba n)):=by decide+kernel
theorem AB:∀{n:Nat},n<256->ba n<9:=by decide+kernel
theorem Cf(h:n<256):cB (UInt8.ofNat (ba n))=(ba n:Int):=by
 have:=AB h
 unfold cB
 simp;omega
theorem Tp{h:T O}{N:Nat}{x:Nat}(hx:x<18446744073709551616):Fn A.C 268 [.int .u64 x] h N (fun v' h' N'=>h'=h/\N'=N/\v'=.int .i64 (ba x:Nat)):=by
 intro w
 rw[aR,A.k268 (by simp)]
 by_cases h0:4294967296<=x
 ·have qW:(4294967296:Int)<=((x:Nat):Int):=by omega
  by_cases h1:65536<=al (x) 32
  ·have gh:(65536:Int)<=((al (x) 32:Nat):Int):=by omega
   by_cases h2:256<=al (al (x) 32) 16
   ·have jT:(256:Int)<=((al (al (x) 32) 16:Nat):Int):=by omega
    have hb:al (al (al (x) 32) 16) 8<256:=by (try simp only[al]at*);omega
    have ht:=Ce hb
    have hv:cB (UInt8.ofNat (ba (al (al (al (x) 32) 16) 8)))=(ba (al (al (al (x) 32) 16) 8):Int):=Cf hb
    have hl:=AB hb
    simp(disch:=omega) [A.b268,qW,gh,jT,yV,ht,hv,aA]
    have:=wk (k:=32) (n:=x) h0
    have:=wk (k:=16) (n:=al (x) 32) h1
    have:=wk (k:=8) (n:=al (al (x) 32) 16) h2
    first|exact ab.refl|exact And.intro ab.refl (by omega)
   ·have jT:¬(256:Int)<=((al (al (x) 32) 16:Nat):Int):=by omega
    have hb:al (al (x) 32) 16<256:=by (try simp only[al]at*);omega
    have ht:=Ce hb
    have hv:cB (UInt8.ofNat (ba (al (al (x) 32) 16)))=(ba (al (al (x) 32) 16):Int):=Cf hb
    have hl:=AB hb
    simp(disch:=omega) [A.b268,qW,gh,jT,yV,ht,hv,aA]
    have:=wk (k:=32) (n:=x) h0
    have:=wk (k:=16) (n:=al (x) 32) h1
    first|exact ab.refl|exact And.intro ab.refl (by omega)
  ·have gh:¬(65536:Int)<=((al (x) 32:Nat):Int):=by omega
   by_cases h2:256<=al (x) 32
   ·have jT:(256:Int)<=((al (x) 32:Nat):Int):=by omega
    have hb:al (al (x) 32) 8<256:=by (try simp only[al]at*);omega
    have ht:=Ce hb
    have hv:cB (UInt8.ofNat (ba (al (al (x) 32) 8)))=(ba (al (al (x) 32) 8):Int):=Cf hb
    have hl:=AB hb
    simp(disch:=omega) [A.b268,qW,gh,jT,yV,ht,hv,aA]
    have:=wk (k:=32) (n:=x) h0
    have:=wk (k:=8) (n:=al (x) 32) h2
    first|exact ab.refl|exact And.intro ab.refl (by omega)
   ·have jT:¬(256:Int)<=((al (x) 32:Nat):Int):=by omega
    have hb:al (x) 32<256:=by (try simp only[al]at*);omega
    have ht:=Ce hb
    have hv:cB (UInt8.ofNat (ba (al (x) 32)))=(ba (al (x) 32):Int):=Cf hb
    have hl:=AB hb
    simp(disch:=omega) [A.b268,qW,gh,jT,yV,ht,hv,aA]
    have:=wk (k:=32) (n:=x) h0
    first|exact ab.refl|exact And.intro ab.refl (by omega)
 ·have qW:¬(4294967296:Int)<=((x:Nat):Int):=by omega
  by_cases h1:65536<=x
  ·have gh:(65536:Int)<=((x:Nat):Int):=by omega
   by_cases h2:256<=al (x) 16
   ·have jT:(256:Int)<=((al (x) 16:Nat):Int):=by omega
    have hb:al (al (x) 16) 8<256:=by (try simp only[al]at*);omega
    have ht:=Ce hb
    have hv:cB (UInt8.ofNat (ba (al (al (x) 16) 8)))=(ba (al (al (x) 16) 8):Int):=Cf hb
    have hl:=AB hb
    simp(disch:=omega) [A.b268,qW,gh,jT,yV,ht,hv,aA]
    have:=wk (k:=16) (n:=x) h1
    have:=wk (k:=8) (n:=al (x) 16) h2
    first|exact ab.refl|exact And.intro ab.refl (by omega)
   ·have jT:¬(256:Int)<=((al (x) 16:Nat):Int):=by omega
    have hb:al (x) 16<256:=by (try simp only[al]at*);omega
    have ht:=Ce hb
    have hv:cB (UInt8.ofNat (ba (al (x) 16)))=(ba (al (x) 16):Int):=Cf hb
    have hl:=AB hb
    simp(disch:=omega) [A.b268,qW,gh,jT,yV,ht,hv,aA]
    have:=wk (k:=16) (n:=x) h1
    first|exact ab.refl|exact And.intro ab.refl (by omega)
  ·have gh:¬(65536:Int)<=((x:Nat):Int):=by omega
   by_cases h2:256<=x
   ·have jT:(256:Int)<=((x:Nat):Int):=by omega
    have hb:al (x) 8<256:=by (try simp only[al]at*);omega
    have ht:=Ce hb
    have hv:cB (UInt8.ofNat (ba (al (x) 8)))=(ba (al (x) 8):Int):=Cf hb
    have hl:=AB hb
    simp(disch:=omega) [A.b268,qW,gh,jT,yV,ht,hv,aA]
    have:=wk (k:=8) (n:=x) h2
    first|exact ab.refl|exact And.intro ab.refl (by omega)
   ·have jT:¬(256:Int)<=((x:Nat):Int):=by omega
    have hb:x<256:=by (try simp only[al]at*);omega
    have ht:=Ce hb
    have hv:cB (UInt8.ofNat (ba (x)))=(ba (x):Int):=Cf hb
    have hl:=AB hb
    simp(disch:=omega) [A.b268,qW,gh,jT,yV,ht,hv,aA]
    first|exact ab.refl|exact And.intro ab.refl (by omega)
theorem Zp{h:T O}{N:Nat}{x:Nat}(hx:x<18446744073709551616):Fn A.C 272 [.int .u64 x] h N (fun v' h' N'=>h'=h/\N'=N/\v'=.int .i64 ((64-ba x:Nat))):=by
 intro w
 have hl:ba x<=64:=by
  by_cases h0:x=0
  ·subst h0;decide
  ·apply vN
   intro hc
   have:=GQ h0
   have:2^64<=2^(ba x-1):=qx (by decide) (by omega)
   omega
 rw[aR,A.k272 (by simp)]
 simp[A.b272]
 refine ax (Tp hx) ?_
 rintro _ _ _ hk ⟨rfl,rfl,rfl⟩
 simp(disch:=omega) [aA]
 exact⟨hk,by omega⟩
end Go.Mx
