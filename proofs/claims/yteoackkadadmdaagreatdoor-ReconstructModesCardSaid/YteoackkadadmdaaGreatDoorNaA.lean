/-num-/
import Derived.Test.YteoackkadadmdaaGreatDoorRcH
set_option linter.all false
namespace Go.Mx
open Go Go.Proofs
set_option maxHeartbeats 2000000
set_option maxRecDepth 1000000
def A.fN:av:=sr [bi 23 .lss 22 21]
 (.seq (cd 23
 (.skip)
 (.exit 0))
 (.seq (.block 1 (sr [mv 24 22,mv 7 24]
 (sr [ge 8 (.ba (.const (.int .u64 0)))]
 (.seq (sr [mv 25 7,mv 26 1,ln 27 26,bi 28 .lss 25 27]
 (cd 28
 (.aR [mv 29 1,mv 30 7,ia 31 1 29 30,ld 32 31,mv 8 32])
 (.skip)))
 (.aR [mv 34 5,mv 35 7,mv 36 0,mv 37 7,ia 38 1 36 37,ld 39 38,mv 40 8,mv 41 6,ge 42 (.ext .eW [tq 39,tq 40,tq 41]),mv 33 42,xt 43 33 0,xt 44 33 1,ia 45 1 34 35,so 45 43,mv 6 44])))))
 (.aR [bc 46 .add 22 1,mv 22 46])))
def A.b198:av:=sr [mN 4]
 (.seq (sr [mv 9 0,ln 10 9,mv 11 1,ln 12 11,bi 13 .lss 10 12]
 (cd 13
 (.aR [mv 14 1,mv 15 0,mv 0 14,mv 1 15])
 (.skip)))
 (sr [mv 16 0,ln 17 16,bc 18 .add 17 1,ge 19 (.bY 203 1 8 [.int .u64 0] (tq 18) (tq 18)),mv 5 19]
 (sr [ge 6 (.ba (.const (.int .u64 0)))]
 (.seq (sr [mv 20 0,ln 21 20,mc 22 0]
 (.block 0 (.loop A.fN)))
 (sr [mv 47 5,mv 48 0,ln 49 48,mv 50 6,ia 51 1 47 49,so 51 50]
 (sr [mv 52 5,c1 53 240 52,mv 4 53]
 (.ret)))))))
def A.c198:A.F 198=some ⟨54,[.tmp 4],A.b198⟩:=by kernel_rfl
def A.k198:=@A.kk 198 _ _ _ A.c198 rfl
structure Yue (h:T O) (N x y k:Nat) (o:List Nat) (c:Nat) (r:T V) (st:St):Prop where
 hk:k<=(aJ x).length
 r22:r.get 22=some (.int .i64 k)
 r6:r.get 6=some (.int .u64 c)
 n:st.n=N+1
 w:ax N st.w=[]
 ae:ab h N st.h (N+1)
 row:st.h.get N=some (.cells (dg o) 203 true)
 len:o.length=(aJ x).length+1
 ex:∃d,d.length=k/\o=d++List.replicate ((aJ x).length+1-k) 0/\val B d+B^k*c=val B ((aJ x).take k)+val B ((aJ y).take k)/\c<=1/\Dg d
def Yuf(h:T O)(N x y m:Nat)(r:T V)(st:St):Prop:=∃k o c,m=(aJ x).length-k/\Yue h N x y k o c r st
def Yug(h:T O)(N x y:Nat)(r:T V)(st:St):Prop:=∃o c,Yue h N x y (aJ x).length o c r st
def Yfp{x y o d:List Nat}{k c xk:Nat}(hx:x[k]?=some xk)(d1:d.length=k)(d2:o=d++List.replicate (x.length+1-k) 0)(d3:val B d+B^k*c=val B (x.take k)+val B (y.take k))(d4:c<=1)(d5:Dg d)(gx:Dg x)(gy:Dg y):
  (d++[bG (xk+dz y k+c)]).length=k+1/\o.set k (bG (xk+dz y k+c))=(d++[bG (xk+dz y k+c)])++List.replicate (x.length+1-(k+1)) 0/\val B (d++[bG (xk+dz y k+c)])+B^(k+1)*cn (xk+dz y k+c)=val B (x.take (k+1))+val B (y.take (k+1))/\cn (xk+dz y k+c)<=1/\Dg (d++[bG (xk+dz y k+c)]):=by
 have hk:k<x.length:=by
  apply sM;intro hc;rw[fC hc]at hx;cases hx
 have Ly:=gx.get hx
 have hyk:=Yrl gy k
 have hm:=tP (xk+dz y k+c) B
 refine⟨by simp[d1],?_,?_,?_,?_⟩
 ·rw[d2,show x.length+1-k=(x.length-k)+1 by omega,VT d1,show x.length+1-(k+1)=x.length-k by omega]
 ·rw[PD,Cz,Cz,d1,show dz x k=xk by simp[dz,hx]]
  have e1:bG (xk+dz y k+c)=(xk+dz y k+c)%B:=rfl
  have e2:cn (xk+dz y k+c)=(xk+dz y k+c)/B:=rfl
  rw[e1,e2,gE]
  generalize (xk+dz y k+c)%B=lo at*
  generalize (xk+dz y k+c)/B=hi at*
  generalize B^k=p at*
  have:p*(B*hi+lo)=p*(xk+dz y k+c):=by rw[hm]
  grind
 ·show (xk+dz y k+c)/B<=1
  unfold B at*;omega
 ·intro e he
  rcases kb.1 he with he|he
  ·exact d5 e he
  ·simp at he;subst he;exact kh _ (by decide)
def Yk4{x y:Nat}{o d:List Nat}{c:Nat}(hl:(aJ y).length<=(aJ x).length)(d1:d.length=(aJ x).length)(d2:o=d++List.replicate ((aJ x).length+1-(aJ x).length) 0)(d3:val B d+B^(aJ x).length*c=val B ((aJ x).take (aJ x).length)+val B ((aJ y).take (aJ x).length))(d4:c<=1)(d5:Dg d):se (o.set (aJ x).length c)=aJ (x+y):=by
 rw[d2,show (aJ x).length+1-(aJ x).length=0+1 by omega,VT d1]
 simp only[List.replicate_zero,zn]
 rw[CA,PD,d1,d3,eZ (aW _),eZ hl,mH,mH]
 intro e he
 rcases kb.1 he with he|he
 ·exact d5 e he
 ·simp at he;subst he;unfold B;omega
def Zv0{h:T O}{N:Nat}{vx vy:V}{x y:Nat}(hx:Wn h N vx x)(hy:Wn h N vy y)(A2:(aJ x).length<1099511627776)(KM:(aJ y).length<1099511627776):Fn A.C 198 [vx,vy] h N (fun v' h' N'=>Wn h' N' v' (x+y)):=by
 intro w
 have lx:=hx.len
 have ly:=hy.len
 rw[bI]at lx ly
 rw[aO,A.k198 (by simp)]
 by_cases hl:(aJ x).length<(aJ y).length
 ·simp(disch:=first|(simp;done)|omega|(simp only[bI,cC,bD];omega)|rfl) [A.b198,lx,ly,hl]
  refine bP [(6,8),(22,46)] (fun e r st=>e=.exit 0/\Yug h N y x r st) (Yuf h N y x) (aJ y).length ?_ ?_ ?_
  ·refine⟨0,List.replicate ((aJ y).length+1) 0,0,by omega,⟨by omega,by simp,by simp,by simp,by simp,ab.refl.set (aW _) |>.up (by omega),by simp[GF],by simp,[],by simp,by simp,by simp[val],by decide,by simp[Dg]⟩⟩
  ·rintro m r ⟨H,n1,W⟩ hr hf ⟨k,o,c,rfl,hk,nX,h6,hn,hW,hK,hN,ho,d,hd⟩
   simp only at hn hW hK hN
   subst hn
   rw[bq]
   by_cases ay:k<(aJ y).length
   ·obtain⟨i1,o1,c1,e1,w1,p1,p2,p3,p4⟩:=hy.at (fv (cZ ay))
    have p3:=(hK.get _ p2).trans p3
    obtain⟨d1,d2,d3,d4,d5⟩:=hd
    have iU:=Yfp (x:=aJ y) (y:=aJ x) (cZ ay) d1 d2 d3 d4 d5 (qH y) (qH x)
    by_cases pO:k<(aJ x).length
    ·obtain⟨i2,o2,c2,e2,w2,q1,q2,q3,q4⟩:=hx.at (fv (cZ pO))
     have q3:=(hK.get _ q2).trans q3
     have hz:dz (aJ x) k=(aJ x)[k]:=by simp[dz,cZ pO]
     rw[hz]at iU
     simp(disch:=first|(simp;done)|omega|(simp only[bI,cC,bD];omega)|rfl) [A.fN,hr,nX,h6,ay,pO,ly,lx,p1,p3,p4,q1,q3,q4,hN,pR,hf]
     exact⟨_,by omega,k+1,_,_,rfl,⟨by omega,by simp,by simp,rfl,by simp[hW],hK.set (aW _),by simp,by simp[ho],_,iU⟩⟩
    ·have hz:dz (aJ x) k=0:=by simp[dz,fC (sH.1 pO)]
     rw[hz]at iU
     simp(disch:=first|(simp;done)|omega|(simp only[bI,cC,bD];omega)|rfl) [A.fN,hr,nX,h6,ay,pO,ly,lx,p1,p3,p4,hN,pR,hf]
     exact⟨_,by omega,k+1,_,_,rfl,⟨by omega,by simp,by simp,rfl,by simp[hW],hK.set (aW _),by simp,by simp[ho],_,iU⟩⟩
   ·have Lz:k=(aJ y).length:=by omega
    subst Lz
    simp[A.fN,hr,nX,hf]
    exact⟨o,c,⟨by omega,by simp[nX],by simp[h6],rfl,by simp[hW],hK,hN,ho,d,hd⟩⟩
  ·rintro _ r ⟨H,n1,W⟩ hr ⟨rfl,o,c,hk,nX,h6,hn,hW,hK,hN,ho,d,d1,d2,d3,d4,d5⟩
   simp only at hn hW hK hN
   subst hn
   simp(disch:=first|(simp;done)|omega|(simp only[bI,cC,bD];omega)|rfl) [hr,h6,ly,hN,pR]
   refine aA (CB (l:=o.set (aJ y).length c) (Sl.row (e:=203) (rw:=true) (by omega) (by simp) (by simp[ho]) (by simp)) (by simp[ho];omega)) ?_
   intro v' h' n' gw hs
   simp[az]
   refine⟨hW,(hK.set (aW _)).trans gw,?_⟩
   rw[Yk4 (by omega) d1 d2 d3 d4 d5]at hs
   exact(Nat.add_comm y x▸hs)
 ·simp(disch:=first|(simp;done)|omega|(simp only[bI,cC,bD];omega)|rfl) [A.b198,lx,ly,hl]
  refine bP [(6,8),(22,46)] (fun e r st=>e=.exit 0/\Yug h N x y r st) (Yuf h N x y) (aJ x).length ?_ ?_ ?_
  ·refine⟨0,List.replicate ((aJ x).length+1) 0,0,by omega,⟨by omega,by simp,by simp,by simp,by simp,ab.refl.set (aW _) |>.up (by omega),by simp[GF],by simp,[],by simp,by simp,by simp[val],by decide,by simp[Dg]⟩⟩
  ·rintro m r ⟨H,n1,W⟩ hr hf ⟨k,o,c,rfl,hk,nX,h6,hn,hW,hK,hN,ho,d,hd⟩
   simp only at hn hW hK hN
   subst hn
   rw[bq]
   by_cases ay:k<(aJ x).length
   ·obtain⟨i1,o1,c1,e1,w1,p1,p2,p3,p4⟩:=hx.at (fv (cZ ay))
    have p3:=(hK.get _ p2).trans p3
    obtain⟨d1,d2,d3,d4,d5⟩:=hd
    have iU:=Yfp (x:=aJ x) (y:=aJ y) (cZ ay) d1 d2 d3 d4 d5 (qH x) (qH y)
    by_cases pO:k<(aJ y).length
    ·obtain⟨i2,o2,c2,e2,w2,q1,q2,q3,q4⟩:=hy.at (fv (cZ pO))
     have q3:=(hK.get _ q2).trans q3
     have hz:dz (aJ y) k=(aJ y)[k]:=by simp[dz,cZ pO]
     rw[hz]at iU
     simp(disch:=first|(simp;done)|omega|(simp only[bI,cC,bD];omega)|rfl) [A.fN,hr,nX,h6,ay,pO,lx,ly,p1,p3,p4,q1,q3,q4,hN,pR,hf]
     exact⟨_,by omega,k+1,_,_,rfl,⟨by omega,by simp,by simp,rfl,by simp[hW],hK.set (aW _),by simp,by simp[ho],_,iU⟩⟩
    ·have hz:dz (aJ y) k=0:=by simp[dz,fC (sH.1 pO)]
     rw[hz]at iU
     simp(disch:=first|(simp;done)|omega|(simp only[bI,cC,bD];omega)|rfl) [A.fN,hr,nX,h6,ay,pO,lx,ly,p1,p3,p4,hN,pR,hf]
     exact⟨_,by omega,k+1,_,_,rfl,⟨by omega,by simp,by simp,rfl,by simp[hW],hK.set (aW _),by simp,by simp[ho],_,iU⟩⟩
   ·have Lz:k=(aJ x).length:=by omega
    subst Lz
    simp[A.fN,hr,nX,hf]
    exact⟨o,c,⟨by omega,by simp[nX],by simp[h6],rfl,by simp[hW],hK,hN,ho,d,hd⟩⟩
  ·rintro _ r ⟨H,n1,W⟩ hr ⟨rfl,o,c,hk,nX,h6,hn,hW,hK,hN,ho,d,d1,d2,d3,d4,d5⟩
   simp only at hn hW hK hN
   subst hn
   simp(disch:=first|(simp;done)|omega|(simp only[bI,cC,bD];omega)|rfl) [hr,h6,lx,hN,pR]
   refine aA (CB (l:=o.set (aJ x).length c) (Sl.row (e:=203) (rw:=true) (by omega) (by simp) (by simp[ho]) (by simp)) (by simp[ho];omega)) ?_
   intro v' h' n' gw hs
   simp[az]
   refine⟨hW,(hK.set (aW _)).trans gw,?_⟩
   rw[Yk4 (by omega) d1 d2 d3 d4 d5]at hs
   exact hs
set_option maxHeartbeats 2000000
def A.mI:av:=sr [bi 15 .lss 14 13]
 (.seq (cd 15
 (.skip)
 (.exit 0))
 (.seq (.block 1 (sr [mv 16 14,mv 7 16]
 (sr [ge 8 (.ba (.const (.int .u64 0)))]
 (.seq (sr [mv 17 7,mv 18 1,ln 19 18,bi 20 .lss 17 19]
 (cd 20
 (.aR [mv 21 1,mv 22 7,ia 23 1 21 22,ld 24 23,mv 8 24])
 (.skip)))
 (.aR [mv 26 5,mv 27 7,mv 28 0,mv 29 7,ia 30 1 28 29,ld 31 30,mv 32 8,mv 33 6,ge 34 (.ext .iH [tq 31,tq 32,tq 33]),mv 25 34,xt 35 25 0,xt 36 25 1,ia 37 1 26 27,so 37 35,mv 6 36])))))
 (.aR [bc 38 .add 14 1,mv 14 38])))
def A.b200:av:=sr [mN 4]
 (sr [mv 9 0,ln 10 9,ge 11 (.bY 203 1 8 [.int .u64 0] (tq 10) (tq 10)),mv 5 11]
 (sr [ge 6 (.ba (.const (.int .u64 0)))]
 (.seq (sr [mv 12 0,ln 13 12,mc 14 0]
 (.block 0 (.loop A.mI)))
 (sr [mv 39 5,c1 40 240 39,mv 4 40]
 (.ret)))))
def A.c200:A.F 200=some ⟨41,[.tmp 4],A.b200⟩:=by kernel_rfl
def A.k200:=@A.kk 200 _ _ _ A.c200 rfl
def Eo{a b:Nat}(h:a<=b):(aJ a).length<=(aJ b).length:=by
 apply yp
 intro hc
 have h1:=En (b:=B) (qH b)
 rw[mH]at h1
 have h2:∀n,n≠0->B^((aJ n).length-1)<=n:=by
  intro n
  induction n using Nat.strongRecOn with
  |_ n ih=>
   intro hn
   rw[mG hn]
   by_cases h0:n/B=0
   ·rw[h0,qG];simp;omega
   ·have:=ih (n/B) (BS (by omega) (by decide)) h0
    have hp:0<(aJ (n/B)).length:=by rw[mG h0];simp
    simp only[bD,Nat.add_sub_cancel]
    rw[show (aJ (n/B)).length=((aJ (n/B)).length-1)+1 by omega,gE]
    have h3:B^((aJ (n/B)).length-1)*B<=n/B*B:=lV B this
    have:=Nat.div_mul_le_self n B
    omega
 have ha:a≠0:=by
  rintro rfl
  rw[qG]at hc;simp at hc
 have h3:=h2 a ha
 have h4:B^(aJ b).length<=B^((aJ a).length-1):=sK (by decide) (by omega)
 omega
structure Yub (h:T O) (N x y k:Nat) (o:List Nat) (c:Nat) (r:T V) (st:St):Prop where
 hk:k<=(aJ x).length
 I9:r.get 14=some (.int .i64 k)
 r6:r.get 6=some (.int .u64 c)
 n:st.n=N+1
 w:ax N st.w=[]
 ae:ab h N st.h (N+1)
 row:st.h.get N=some (.cells (dg o) 203 true)
 len:o.length=(aJ x).length
 ex:∃d,d.length=k/\o=d++List.replicate ((aJ x).length-k) 0/\val B d+val B ((aJ y).take k)=val B ((aJ x).take k)+B^k*c/\c<=1/\Dg d
def Yvq(h:T O)(N x y m:Nat)(r:T V)(st:St):Prop:=∃k o c,m=(aJ x).length-k/\Yub h N x y k o c r st
def Yvr(h:T O)(N x y:Nat)(r:T V)(st:St):Prop:=∃o c,Yub h N x y (aJ x).length o c r st
def Yls{x y o d:List Nat}{k c xk:Nat}(hx:x[k]?=some xk)(d1:d.length=k)(d2:o=d++List.replicate (x.length-k) 0)(d3:val B d+val B (y.take k)=val B (x.take k)+B^k*c)(d4:c<=1)(d5:Dg d)(gx:Dg x)(gy:Dg y):
  (d++[er xk (dz y k) c]).length=k+1/\o.set k (er xk (dz y k) c)=(d++[er xk (dz y k) c])++List.replicate (x.length-(k+1)) 0/\val B (d++[er xk (dz y k) c])+val B (y.take (k+1))=val B (x.take (k+1))+B^(k+1)*fA xk (dz y k) c/\fA xk (dz y k) c<=1/\Dg (d++[er xk (dz y k) c]):=by
 have hk:k<x.length:=by
  apply sM;intro hc;rw[fC hc]at hx;cases hx
 have Ly:=gx.get hx
 have hyk:=Yrl gy k
 have hs:er xk (dz y k) c+dz y k+c=xk+B*fA xk (dz y k) c/\er xk (dz y k) c<B/\fA xk (dz y k) c<=1:=by
  unfold er fA
  unfold B at*
  split<;>omega
 refine⟨by simp[d1],?_,?_,hs.2.2,?_⟩
 ·rw[d2,show x.length-k=(x.length-(k+1))+1 by omega,VT d1]
 ·rw[PD,Cz,Cz,d1,show dz x k=xk by simp[dz,hx],gE]
  have h1:=hs.1
  generalize er xk (dz y k) c=s at*
  generalize fA xk (dz y k) c=b at*
  generalize B^k=p at*
  have:p*(s+dz y k+c)=p*(xk+B*b):=by rw[h1]
  grind
 ·intro e he
  rcases kb.1 he with he|he
  ·exact d5 e he
  ·simp at he;subst he;exact hs.2.1
def Yp1{x y:Nat}{o d:List Nat}{c:Nat}(hl:y<=x)(d1:d.length=(aJ x).length)(d2:o=d++List.replicate ((aJ x).length-(aJ x).length) 0)(d3:val B d+val B ((aJ y).take (aJ x).length)=val B ((aJ x).take (aJ x).length)+B^(aJ x).length*c)(d4:c<=1)(d5:Dg d):se o=aJ (x-y):=by
 rw[d2,Nat.sub_self]
 simp only[List.replicate_zero,zn]
 rw[CA d5]
 congr 1
 rw[eZ (aW _),eZ (Eo hl),mH,mH]at d3
 have:=En d5
 rw[d1]at this
 rcases Nat.lt_or_ge c 1 with hc|hc
 ·have:c=0:=by omega
  subst this
  simp at d3;omega
 ·have:c=1:=by omega
  subst this
  omega
def Znd{h:T O}{N:Nat}{vx vy:V}{x y:Nat}(hx:Wn h N vx x)(hy:Wn h N vy y)(PG:y<=x)(A2:(aJ x).length<1099511627776)(KM:(aJ y).length<1099511627776):Fn A.C 200 [vx,vy] h N (fun v' h' N'=>Wn h' N' v' (x-y)):=by
 intro w
 have lx:=hx.len
 have ly:=hy.len
 rw[bI]at lx ly
 rw[aO,A.k200 (by simp)]
 simp(disch:=first|(simp;done)|omega|(simp only[bI,cC,bD];omega)|rfl) [A.b200,lx]
 refine bP [(6,8),(14,38)] (fun e r st=>e=.exit 0/\Yvr h N x y r st) (Yvq h N x y) (aJ x).length ?_ ?_ ?_
 ·refine⟨0,List.replicate (aJ x).length 0,0,by omega,⟨by omega,by simp,by simp,by simp,by simp,ab.refl.set (aW _) |>.up (by omega),by simp[GF],by simp,[],by simp,by simp,by simp[val],by decide,by simp[Dg]⟩⟩
 ·rintro m r ⟨H,n1,W⟩ hr hf ⟨k,o,c,rfl,hk,nX,h6,hn,hW,hK,hN,ho,d,hd⟩
  simp only at hn hW hK hN
  subst hn
  rw[bq]
  by_cases ay:k<(aJ x).length
  ·obtain⟨i1,o1,c1,e1,w1,p1,p2,p3,p4⟩:=hx.at (fv (cZ ay))
   have p3:=(hK.get _ p2).trans p3
   obtain⟨d1,d2,d3,d4,d5⟩:=hd
   have iU:=Yls (x:=aJ x) (y:=aJ y) (cZ ay) d1 d2 d3 d4 d5 (qH x) (qH y)
   by_cases pO:k<(aJ y).length
   ·obtain⟨i2,o2,c2,e2,w2,q1,q2,q3,q4⟩:=hy.at (fv (cZ pO))
    have q3:=(hK.get _ q2).trans q3
    have hz:dz (aJ y) k=(aJ y)[k]:=by simp[dz,cZ pO]
    rw[hz]at iU
    simp(disch:=first|(simp;done)|omega|(simp only[bI,cC,bD];omega)|rfl) [A.mI,hr,nX,h6,ay,pO,lx,ly,p1,p3,p4,q1,q3,q4,hN,pR,hf]
    exact⟨_,by omega,k+1,_,_,rfl,⟨by omega,by simp,by simp,rfl,by simp[hW],hK.set (aW _),by simp,by simp[ho],_,iU⟩⟩
   ·have hz:dz (aJ y) k=0:=by simp[dz,fC (sH.1 pO)]
    rw[hz]at iU
    simp(disch:=first|(simp;done)|omega|(simp only[bI,cC,bD];omega)|rfl) [A.mI,hr,nX,h6,ay,pO,lx,ly,p1,p3,p4,hN,pR,hf]
    exact⟨_,by omega,k+1,_,_,rfl,⟨by omega,by simp,by simp,rfl,by simp[hW],hK.set (aW _),by simp,by simp[ho],_,iU⟩⟩
  ·have Lz:k=(aJ x).length:=by omega
   subst Lz
   simp[A.mI,hr,nX,hf]
   exact⟨o,c,⟨by omega,by simp[nX],by simp[h6],rfl,by simp[hW],hK,hN,ho,d,hd⟩⟩
 ·rintro _ r ⟨H,n1,W⟩ hr ⟨rfl,o,c,hk,nX,h6,hn,hW,hK,hN,ho,d,d1,d2,d3,d4,d5⟩
  simp only at hn hW hK hN
  subst hn
  simp[hr]
  refine aA (CB (l:=o) (Sl.row (e:=203) (rw:=true) (by omega) (by simp[hN]) (by simp[ho]) (by simp)) (by simp[ho];omega)) ?_
  intro v' h' n' gw hs
  simp[az]
  refine⟨hW,hK.trans gw,?_⟩
  rw[Yp1 PG d1 d2 d3 d4 d5]at hs
  exact hs
set_option maxHeartbeats 2000000
def A.jE:av:=.seq (sr [mv 19 5,bc 20 .geq 19 0]
 (cd 20
 (.skip)
 (.exit 0)))
 (.seq (.block 1 (.seq (.aX [mv 23 0,mv 24 5,ia 25 1 23 24,ld 26 25,mv 27 1,mv 28 5,ia 29 1 27 28,ld 30 29,ge 31 (.bin .neq (.aM .int) false (tq 26) (tq 30))] [0,0,3,7,0,0,48,112,255])
 (cd 31
 (.seq (.seq (.aX [mv 32 0,mv 33 5,ia 34 1 32 33,ld 35 34,mv 36 1,mv 37 5,ia 38 1 36 37,ld 39 38,bi 40 .lss 35 39] [0,0,3,7,0,0,48,112,255])
 (cd 40
 (sr [ge 4 (.ba (.const (.int .i64 (-1))))]
 (.ret))
 (.skip)))
 (sr [mc 4 1]
 (.ret)))
 (.skip))))
 (.aR [mv 21 5,bc 22 .sub 21 1,mv 5 22]))
def A.b199:av:=sr [mc 4 0]
 (.seq (sr [mv 6 0,ln 7 6,mv 8 1,ln 9 8,ge 10 (.bin .neq (.aM .int) false (tq 7) (tq 9))]
 (cd 10
 (.seq (sr [mv 11 0,ln 12 11,mv 13 1,ln 14 13,bi 15 .lss 12 14]
 (cd 15
 (sr [ge 4 (.ba (.const (.int .i64 (-1))))]
 (.ret))
 (.skip)))
 (sr [mc 4 1]
 (.ret)))
 (.skip)))
 (.seq (sr [mv 16 0,ln 17 16,bc 18 .sub 17 1,mv 5 18]
 (.block 0 (.loop A.jE)))
 (sr [mc 4 0]
 (.ret))))
def A.c199:A.F 199=some ⟨41,[.tmp 4],A.b199⟩:=by kernel_rfl
def A.k199:=@A.kk 199 _ _ _ A.c199 rfl
def vk(x y:Int):Int:=if x<y then -1 else if y<x then 1 else 0
def Ykn{x y:Nat}(h:(aJ x).length<(aJ y).length):x<y:=by
 apply sM
 intro hc
 have:=Eo hc
 omega
def PH{b:Nat}{l:List Nat}{k d:Nat}(h:l[k]?=some d):val b (l.drop k)=d+b*val b (l.drop (k+1)):=by
 have hk:k<l.length:=by
  apply sM;intro hc;rw[fC hc]at h;cases h
 rw[FJ hk]
 rw[cZ hk]at h
 simp only[al]at h
 rw[h];rfl
def Zrw(b:Nat)(l:List Nat)(k:Nat)(hk:k<=l.length):val b l=val b (l.take k)+b^k*val b (l.drop k):=by
 have:=PC b (l.take k) (l.drop k)
 rw[BL,gm,py hk]at this
 exact this
def Yjz{x y:List Nat}{k:Nat}(gx:Dg x)(hx:k<=x.length)(hy:k<=y.length)(h:val B (x.drop k)<val B (y.drop k)):val B x<val B y:=by
 rw[Zrw B x k hx,Zrw B y k hy]
 have h1:val B (x.take k)<B^k:=by
  have:=En (b:=B) (l:=x.take k) fun d hd=>gx d (ym hd)
  rwa [gm,py hx]at this
 have h2:B^k*(val B (x.drop k)+1)<=B^k*val B (y.drop k):=kg _ h
 rw[sL]at h2
 omega
structure Yud (h:T O) (N x y m:Nat) (r:T V) (st:St):Prop where
 hm:m<=(aJ x).length
 r5:r.get 5=some (.int .i64 ((m:Int)-1))
 n:st.n=N
 w:st.w=[]
 ae:ab h N st.h N
 top:(aJ x).drop m=(aJ y).drop m
def Zhz{h:T O}{N:Nat}{vx vy:V}{x y:Nat}(hx:Wn h N vx x)(hy:Wn h N vy y)(A2:(aJ x).length<1099511627776)(KM:(aJ y).length<1099511627776):Fn A.C 199 [vx,vy] h N (fun v' h' N'=>v'=.int .i64 (vk x y)):=by
 intro w
 have lx:=hx.len
 have ly:=hy.len
 rw[bI]at lx ly
 rw[aO,A.k199 (by simp)]
 by_cases bB:(aJ x).length=(aJ y).length
 ·have VY:((aJ x).length:Int)=((aJ y).length:Int):=by omega
  simp(disch:=omega) [A.b199,lx,ly,bB]
  refine bP [(4,5),(19,40)] (fun e r st=>(e=.exit 0/\Yud h N x y 0 r st)\/(e=.ret/\r.get 4=some (.int .i64 (vk x y))/\st.n=N/\st.w=[]/\ab h N st.h N)) (Yud h N x y) (aJ x).length ?_ ?_ ?_
  ·exact⟨by omega,by simp[bB],rfl,rfl,ab.refl,by rw[mm,bB,mm]⟩
  ·rintro m r ⟨H,n1,W⟩ hr hf ⟨hm,h5,hn,hW,hK,ht⟩
   simp only at hn hW hK
   subst hn;subst hW
   rw[bq]
   cases m with
   |zero=>
    simp[A.jE,h5,hf]
    exact⟨by omega,by simp[h5],rfl,rfl,hK,ht⟩
   |succ m=>
    have dh:m<(aJ x).length:=by omega
    have Vc:m<(aJ y).length:=by omega
    have VZ:r.get 5=some (.int .i64 (m:Int)):=by rw[h5];congr 2;omega
    have gx:=cZ dh
    have gy:=cZ Vc
    obtain⟨i1,o1,c1,e1,w1,p1,p2,p3,p4⟩:=hx.at (fv gx)
    have p3:=(hK.get _ p2).trans p3
    obtain⟨i2,o2,c2,e2,w2,q1,q2,q3,q4⟩:=hy.at (fv gy)
    have q3:=(hK.get _ q2).trans q3
    rcases Nat.lt_trichotomy (aJ x)[m] (aJ y)[m]with ay|heq|IT
    ·have cW:x<y:=by
      have:=Yjz (x:=aJ x) (y:=aJ y) (k:=m) (qH x) (by omega) (by omega) (by rw[PH gx,PH gy,ht];omega)
      rwa [mH,mH]at this
     have nY:¬(aJ x)[m]=(aJ y)[m]:=by omega
     simp(disch:=first|(simp;done)|omega|(simp only[bI,cC,bD];omega)|rfl) [A.jE,VZ,hr,hf,lx,ly,p1,p2,p3,p4,q1,q2,q3,q4,nY,ay]
     exact⟨by simp[vk,cW],hK⟩
    ·have LA:(aJ x).drop m=(aJ y).drop m:=by rw[FJ dh,FJ Vc,ht,heq]
     simp(disch:=first|(simp;done)|omega|(simp only[bI,cC,bD];omega)|rfl) [A.jE,VZ,hr,hf,lx,ly,p1,p2,p3,p4,q1,q2,q3,q4,heq]
     exact⟨m,by omega,⟨by omega,by simp,rfl,rfl,hK,LA⟩⟩
    ·have cW:y<x:=by
      have:=Yjz (x:=aJ y) (y:=aJ x) (k:=m) (qH y) (by omega) (by omega) (by rw[PH gx,PH gy,ht];omega)
      rwa [mH,mH]at this
     have nY:¬(aJ x)[m]=(aJ y)[m]:=by omega
     have ay:¬(aJ x)[m]<(aJ y)[m]:=by omega
     have GJ:¬x<y:=by omega
     simp(disch:=first|(simp;done)|omega|(simp only[bI,cC,bD];omega)|rfl) [A.jE,VZ,hr,hf,lx,ly,p1,p2,p3,p4,q1,q2,q3,q4,nY,ay]
     exact⟨by simp[vk,cW,GJ],hK⟩
  ·rintro e r ⟨H,n1,W⟩ hr (⟨rfl,hm,h5,hn,hW,hK,ht⟩|⟨rfl,h4,hn,hW,hK⟩)
   ·simp only at hn hW hK
    subst hn;subst hW
    simp only[yk]at ht
    have:x=y:=by rw[<-mH x,ht,mH]
    subst this
    simp[az]
    exact⟨hK,by simp[vk]⟩
   ·simp only at hn hW hK
    subst hn;subst hW
    simp[h4,az]
    exact hK
 ·have VY:¬((aJ x).length:Int)=((aJ y).length:Int):=by omega
  by_cases ay:(aJ x).length<(aJ y).length
  ·have:=Ykn ay
   simp[A.b199,lx,ly,bB,ay,az]
   exact⟨ab.refl,by simp[vk,this]⟩
  ·have h1:=Ykn (x:=y) (y:=x) (by omega)
   have h2:¬x<y:=by omega
   simp[A.b199,lx,ly,bB,ay,az]
   exact⟨ab.refl,by simp[vk,h1,h2]⟩
set_option maxHeartbeats 4000000
def A.qI:av:=sr [bi 30 .lss 29 28]
 (.seq (cd 30
 (.skip)
 (.exit 2))
 (.seq (.block 3 (sr [mv 31 29,ia 32 1 27 29,ld 33 32,mv 9 31,mv 10 33]
 (sr [mv 35 7,mv 36 10,c2 37 202 35 36,mv 34 37,xt 38 34 0,xt 39 34 1,mv 11 38,mv 12 39]
 (sr [ge 13 (.ba (.const (.int .u64 0)))]
 (sr [mv 41 12,mv 42 5,mv 43 6,mv 44 9,bi 45 .add 43 44,ia 46 1 42 45,ld 47 46,ge 48 (.ext .eW [tq 41,tq 47,.const (.int .u64 0)]),mv 40 48,xt 49 40 0,xt 50 40 1,mv 12 49,mv 13 50]
 (sr [mv 51 11,mv 52 13,bi 53 .add 51 52,mv 11 53]
 (sr [mv 55 12,mv 56 8,ge 57 (.ext .eW [tq 55,tq 56,.const (.int .u64 0)]),mv 54 57,xt 58 54 0,xt 59 54 1,mv 12 58,mv 13 59]
 (.aR [mv 60 5,mv 61 6,mv 62 9,bi 63 .add 61 62,mv 64 12,mv 65 11,mv 66 13,bi 67 .add 65 66,ia 68 1 60 63,so 68 64,mv 8 67]))))))))
 (.aR [bc 69 .add 29 1,mv 29 69])))
def A.qJ:av:=sr [bi 23 .lss 22 21]
 (.seq (cd 23
 (.skip)
 (.exit 0))
 (.seq (.block 1 (sr [mv 24 22,ia 25 1 20 22,ld 26 25,mv 6 24,mv 7 26]
 (sr [ge 8 (.ba (.const (.int .u64 0)))]
 (.seq (sr [mv 27 1,ln 28 27,mc 29 0]
 (.block 2 (.loop A.qI)))
 (.aR [mv 70 5,mv 71 6,mv 72 1,ln 73 72,bi 74 .add 71 73,mv 75 8,ia 76 1 70 74,so 76 75])))))
 (.aR [bc 77 .add 22 1,mv 22 77])))
def A.b204:av:=sr [mN 4]
 (sr [mv 14 0,ln 15 14,mv 16 1,ln 17 16,bi 18 .add 15 17,ge 19 (.bY 203 1 8 [.int .u64 0] (tq 18) (tq 18)),mv 5 19]
 (.seq (sr [mv 20 0,ln 21 20,mc 22 0]
 (.block 0 (.loop A.qJ)))
 (sr [mv 78 5,c1 79 240 78,mv 4 79]
 (.ret))))
def A.c204:A.F 204=some ⟨80,[.tmp 4],A.b204⟩:=by kernel_rfl
def A.k204:=@A.kk 204 _ _ _ A.c204 rfl
def LB{b:Nat}:∀{l:List Nat} {k old v:Nat},l[k]?=some old->val b (l.set k v)+b^k*old=val b l+b^k*v
 |[],k,old,v,h=>by simp at h
 |d::l,0,old,v,h=>by simp at h;subst h;simp[val];omega
 |d::l,k+1,old,v,h=>by
  have ih:=LB (b:=b) (l:=l) (k:=k) (old:=old) (v:=v) (by simpa using h)
  simp only[List.set_cons_succ,val,gE]
  generalize val b (l.set k v)=p at*
  generalize val b l=q at*
  generalize b^k=z at*
  have:b*(p+z*old)=b*(q+z*v):=by rw[ih]
  grind
def Dg.set{l:List Nat}(h:Dg l){k v:Nat}(hv:v<B):Dg (l.set k v):=by
 intro d hd
 rcases EZ hd with hd|hd
 ·exact h d hd
 ·subst hd;exact hv
def fO(x y o c:Nat):Nat:=bG (bG (bG (x*y)+o)+c)
def jb(x y o c:Nat):Nat:=cJ (cJ (cn (x*y)) (cn (bG (x*y)+o))) (cn (bG (bG (x*y)+o)+c))
def Yht{x y o c:Nat}(hx:x<B)(hy:y<B)(ho:o<B)(hc:c<B):fO x y o c+B*jb x y o c=x*y+o+c/\fO x y o c<B/\jb x y o c<B:=by
 have:x*y<=18446744073709551615*18446744073709551615:=uI (by unfold B at*;omega) (by unfold B at*;omega)
 unfold fO jb bG cn cJ
 unfold B at*
 generalize x*y=p at*
 omega
structure Yuc (h:T O) (N x y i j:Nat) (o:List Nat) (c xi:Nat) (r:T V) (st:St):Prop where
 hj:j<=(aJ y).length
 r29:r.get 29=some (.int .i64 j)
 r8:r.get 8=some (.int .u64 c)
 n:st.n=N+1
 w:ax N st.w=[]
 ae:ab h N st.h (N+1)
 row:st.h.get N=some (.cells (dg o) 203 true)
 len:o.length=(aJ x).length+(aJ y).length
 dg:Dg o
 zero:∀t,i+(aJ y).length<=t->t<o.length->o[t]?=some 0
 lc:c<B
 ex:val B o+B^(i+j)*c=val B ((aJ x).take i)*y+B^i*(xi*val B ((aJ y).take j))
def Yvs(h:T O)(N x y i xi m:Nat)(r:T V)(st:St):Prop:=∃j o c,m=(aJ y).length-j/\Yuc h N x y i j o c xi r st
def Yvt(h:T O)(N x y i xi:Nat)(r:T V)(st:St):Prop:=∃o c,Yuc h N x y i (aJ y).length o c xi r st
structure Yr7 (h:T O) (N x y i:Nat) (o:List Nat) (r:T V) (st:St):Prop where
 hi:i<=(aJ x).length
 r22:r.get 22=some (.int .i64 i)
 n:st.n=N+1
 w:ax N st.w=[]
 ae:ab h N st.h (N+1)
 row:st.h.get N=some (.cells (Go.Mx.dg o) 203 true)
 len:o.length=(aJ x).length+(aJ y).length
 dg:Dg o
 zero:∀t,i+(aJ y).length<=t->t<o.length->o[t]?=some 0
 ex:val B o=val B ((aJ x).take i)*y
def Yt2(h:T O)(N x y m:Nat)(r:T V)(st:St):Prop:=∃i o,m=(aJ x).length-i/\Yr7 h N x y i o r st
def Yt3(h:T O)(N x y:Nat)(r:T V)(st:St):Prop:=∃o,Yr7 h N x y (aJ x).length o r st
def Zu0{h:T O}{N:Nat}{vx vy:V}{x y:Nat}(hx:Wn h N vx x)(hy:Wn h N vy y)(A2:(aJ x).length<1099511627776)(KM:(aJ y).length<1099511627776):Fn A.C 204 [vx,vy] h N (fun v' h' N'=>Wn h' N' v' (x*y)):=by
 intro w
 have lx:=hx.len
 have ly:=hy.len
 rw[bI]at lx ly
 rw[aO,A.k204 (by simp)]
 simp(disch:=first|(simp;done)|omega|(simp only[bI,cC,bD];omega)|rfl) [A.b204,lx,ly]
 refine bP [(6,13),(22,77)] (fun e r st=>e=.exit 0/\Yt3 h N x y r st) (Yt2 h N x y) (aJ x).length ?_ ?_ ?_
 ·refine⟨0,List.replicate ((aJ x).length+(aJ y).length) 0,by omega,⟨by omega,by simp,by simp,by simp,ab.refl.set (aW _) |>.up (by omega),?_,by simp,?_,?_,by simp[val,Zrv]⟩⟩
  ·simp[GF]
  ·intro d hd
   rw[Io]at hd
   rw[hd.2];decide
  ·intro t _ ht
   simp at ht
   simp[ht]
 ·rintro m r ⟨H,n1,W⟩ hr hf ⟨i,o,rfl,hi,nX,hn,hW,hK,hN,ho,hd,hz,he⟩
  simp only at hn hW hK hN
  subst hn
  rw[bq]
  by_cases ay:i<(aJ x).length
  ·obtain⟨i1,o1,c1,e1,w1,p1,p2,p3,p4⟩:=hx.at (fv (cZ ay))
   have p3:=(hK.get _ p2).trans p3
   have gx:=cZ ay
   generalize (aJ x)[i]=xi at*
   simp[A.qJ,hr,nX,ay,lx,ly,p1,p3,p4]
   refine bP [(8,13),(29,69)] (fun e r st=>e=.exit 2/\Yvt h N x y i xi r st) (Yvs h N x y i xi) (aJ y).length ?_ ?_ ?_
   ·exact⟨0,o,0,by omega,⟨by omega,by simp,by simp,rfl,hW,hK,hN,ho,hd,hz,by decide,by simp[val,he]⟩⟩
   ·rintro m r2 ⟨H2,n2,W2⟩ dK c_ ⟨j,o2,c,rfl,hj,LC,h8,ff,dX,eN,vn,xG,eX,ed,Cn,uy⟩
    simp only at ff dX eN vn
    subst ff
    rw[bq]
    have hi:xi<B:=(qH x).get gx
    by_cases cW:j<(aJ y).length
    ·obtain⟨i2,o3,c3,e3,w3,q1,q2,q3,q4⟩:=hy.at (fv (cZ cW))
     have q3:=(eN.get _ q2).trans q3
     have gy:=cZ cW
     generalize (aJ y)[j]=yj at*
     have hyj:yj<B:=(qH y).get gy
     have go:=cZ (l:=o2) (i:=i+j) (by omega)
     generalize o2[i+j]'(by omega)=ov at*
     simp[A.qI,dK,LC,cW,ly,q1,q3,q4]
     refine aA (LD hi hyj) ?_
     rintro _ _ _ Bc ⟨rfl,rfl,rfl⟩
     simp(disch:=first|(simp;done)|omega|(simp only[bI,cC,bD];omega)|rfl) [-getElem?_pos,hr,dK,LC,h8,c_,vn,fv go,pR]
     obtain⟨m1,m2,m3⟩:=Yht hi hyj (eX.get go) Cn
     refine⟨_,by omega,j+1,o2.set (i+j) (fO xi yj ov c),jb xi yj ov c,rfl,⟨by omega,by simp,?_,rfl,by simp[dX],eN.set (aW _),?_,by simp[xG],eX.set m2,?_,m3,?_⟩⟩
     ·simp[jb]
     ·simp[fO]
     ·intro t t1 t2
      rw[ec (by omega)]
      exact ed t t1 (by simpa using t2)
     ·have v1:=LB (b:=B) (v:=fO xi yj ov c) go
      rw[Em gy]
      have e1:B^(i+(j+1))=B^(i+j)*B:=by rw[show i+(j+1)=(i+j)+1 by omega,gE]
      have e2:B^i*(xi*(B^j*yj))=B^(i+j)*(xi*yj):=by rw[kQ];grind
      have e3:B^(i+j)*(fO xi yj ov c+B*jb xi yj ov c)=B^(i+j)*(xi*yj+ov+c):=by rw[m1]
      rw[e1]
      generalize val B (List.set o2 (i+j) (fO xi yj ov c))=z1 at*
      generalize val B o2=z2 at*
      generalize fO xi yj ov c=z3 at*
      generalize jb xi yj ov c=z4 at*
      generalize val B (List.take j (aJ y))=z5 at*
      generalize B^(i+j)=z6 at*
      grind
    ·have:j=(aJ y).length:=by omega
     subst this
     simp[A.qI,dK,LC,c_]
     exact⟨o2,c,⟨by omega,by simp[LC],by simp[h8],rfl,dX,eN,vn,xG,eX,ed,Cn,uy⟩⟩
   ·rintro e r2 ⟨H2,n2,W2⟩ dK ⟨rfl,o2,c,hj,LC,h8,ff,dX,eN,vn,xG,eX,ed,Cn,uy⟩
    simp only at ff dX eN vn
    subst ff
    have c_:=hf.inner (D':=[(8,13),(29,69)]) rfl (by simp) dK
    simp(disch:=first|(simp;done)|omega|(simp only[bI,cC,bD];omega)|rfl) [hr,dK,nX,h8,ly,vn,pR,c_]
    have rQ:o2[i+(aJ y).length]?=some 0:=ed _ (aW _) (by omega)
    refine⟨_,by omega,i+1,o2.set (i+(aJ y).length) c,rfl,⟨by omega,by simp,rfl,by simp[dX],eN.set (aW _),by simp,by simp[xG],eX.set Cn,?_,?_⟩⟩
    ·intro t t1 t2
     rw[ec (by omega)]
     exact ed t (by omega) (by simpa using t2)
    ·have v1:=LB (b:=B) (v:=c) rQ
     rw[eZ (aW _),mH]at uy
     rw[Em gx]
     simp only[Nat.mul_zero,ka]at v1
     rw[v1,uy]
     grind
  ·have:i=(aJ x).length:=by omega
   subst this
   simp[A.qJ,hr,nX,hf]
   exact⟨o,⟨by omega,by simp[nX],rfl,hW,hK,hN,ho,hd,hz,he⟩⟩
 ·rintro _ r ⟨H,n1,W⟩ hr ⟨rfl,o,hi,nX,hn,hW,hK,hN,ho,hd,hz,he⟩
  simp only at hn hW hK hN
  subst hn
  simp[hr]
  refine aA (CB (l:=o) (Sl.row (e:=203) (rw:=true) (by omega) (by simp[hN]) (by simp[ho]) (by simp)) (by simp[ho];omega)) ?_
  intro v' h' n' gw hs
  simp[az]
  refine⟨hW,hK.trans gw,?_⟩
  rw[eZ (aW _),mH]at he
  rw[CA hd,he]at hs
  exact hs
variable {n:Nat}
set_option maxHeartbeats 2000000
def Yqy:List UInt8:=[0,1,2,2,3,3,3,3,4,4,4,4,4,4,4,4,5,5,5,5,5,5,5,5,5,5,5,5,5,5,5,5,6,6,6,6,6,6,6,6,6,6,6,6,6,6,6,6,6,6,6,6,6,6,6,6,6,6,6,6,6,6,6,6,7,7,7,7,7,7,7,7,7,7,7,7,7,7,7,7,7,7,7,7,7,7,7,7,7,7,7,7,7,7,7,7,7,7,7,7,7,7,7,7,7,7,7,7,7,7,7,7,7,7,7,7,7,7,7,7,7,7,7,7,7,7,7,7,8,8,8,8,8,8,8,8,8,8,8,8,8,8,8,8,8,8,8,8,8,8,8,8,8,8,8,8,8,8,8,8,8,8,8,8,8,8,8,8,8,8,8,8,8,8,8,8,8,8,8,8,8,8,8,8,8,8,8,8,8,8,8,8,8,8,8,8,8,8,8,8,8,8,8,8,8,8,8,8,8,8,8,8,8,8,8,8,8,8,8,8,8,8,8,8,8,8,8,8,8,8,8,8,8,8,8,8,8,8,8,8,8,8,8,8,8,8,8,8,8,8,8,8,8,8,8,8]
def A.b247:av:=sr [mc 2 0]
 (.seq (sr [mv 3 0,ge 4 (.bin .geq (.node []) false (tq 3) (.const (.int .u64 4294967296)))]
 (cd 4
 (sr [mv 5 0,ge 6 (.bin .shr (.node []) false (tq 5) (.const (.int .u64 32))),mv 0 6]
 (.aR [mc 2 32]))
 (.skip)))
 (.seq (sr [mv 7 0,ge 8 (.bin .geq (.node []) false (tq 7) (.const (.int .u64 65536)))]
 (cd 8
 (sr [mv 9 0,ge 10 (.bin .shr (.node []) false (tq 9) (.const (.int .u64 16))),mv 0 10]
 (.aR [mv 11 2,bc 12 .add 11 16,mv 2 12]))
 (.skip)))
 (.seq (sr [mv 13 0,ge 14 (.bin .geq (.node []) false (tq 13) (.const (.int .u64 256)))]
 (cd 14
 (sr [mv 15 0,ge 16 (.bin .shr (.node []) false (tq 15) (.const (.int .u64 8))),mv 0 16]
 (.aR [mv 17 2,bc 18 .add 17 8,mv 2 18]))
 (.skip)))
 (sr [mv 19 2,mv 20 0,ge 21 (.bj .u8 (tq 20)),ge 22 (.aZ (.const (.str Yqy)) (tq 21)),ge 23 (.bj .i64 (tq 22)),bi 24 .add 19 23,mv 2 24]
 (.ret)))))
def A.c247:A.F 247=some ⟨25,[.tmp 2],A.b247⟩:=by kernel_rfl
def A.k247:=@A.kk 247 _ _ _ A.c247 rfl
def A.b250:av:=sr [mc 2 0]
 (sr [mv 3 0,c1 4 247 3,ge 5 (.bin .sub (.node []) false (kq 64) (tq 4)),mv 2 5]
 (.ret))
def A.c250:A.F 250=some ⟨6,[.tmp 2],A.b250⟩:=by kernel_rfl
def A.k250:=@A.kk 250 _ _ _ A.c250 rfl
def bh(n:Nat):Nat:=if n=0 then 0 else Nat.log2 n+1
def PI(n:Nat):n<2^bh n:=by
 unfold bh
 split
 ·simp[*]
 ·exact Nat.lt_log2_self
def Ja(h:n≠0):2^(bh n-1)<=n:=by
 unfold bh
 rw[ar h]
 exact Nat.log2_self_le h
def Yo6{k:Nat}(h1:2^k<=n)(h2:n<2^(k+1)):bh n=k+1:=by
 have hn:n≠0:=by have:=sN k;omega
 unfold bh
 rw[ar hn]
 congr 1
 have h3:Nat.log2 n<k+1:=(Nat.log2_lt hn).2 h2
 have h4:k<=Nat.log2 n:=(Nat.le_log2 hn).2 h1
 omega
def yE{k:Nat}(h:2^k<=n):bh (au n k)+k=bh n:=by
 unfold au
 have h0:n/2^k≠0:=by
  have:=Nat.div_pos h (sN k);omega
 have h1:=PI (n/2^k)
 have h2:=Ja h0
 have hp:0<bh (n/2^k):=by unfold bh;rw[ar h0];omega
 have e:bh (n/2^k)+k=(bh (n/2^k)-1+k)+1:=by omega
 rw[e]
 symm
 apply Yo6
 ·rw[kQ]
  exact sJ (lV _ h2) (Nat.div_mul_le_self n _)
 ·rw[show bh (n/2^k)-1+k+1=bh (n/2^k)+k by omega,kQ]
  exact(pz (sN k)).1 h1
def Ep:∀{n:Nat},n<256->Yqy[n]?=some (UInt8.ofNat (bh n)):=by decide+kernel
def CC:∀{n:Nat},n<256->bh n<9:=by decide+kernel
def Er(h:n<256):cK (UInt8.ofNat (bh n))=(bh n:Int):=by
 have:=CC h
 unfold cK
 simp;omega
def V0{h:T O}{N:Nat}{x:Nat}(hx:x<18446744073709551616):Fn A.C 247 [.int .u64 x] h N (fun v' h' N'=>h'=h/\N'=N/\v'=.int .i64 (bh x:Nat)):=by
 intro w
 rw[aO,A.k247 (by simp)]
 by_cases h0:4294967296<=x
 ·have jc:(4294967296:Int)<=((x:Nat):Int):=by omega
  by_cases h1:65536<=au (x) 32
  ·have fH:(65536:Int)<=((au (x) 32:Nat):Int):=by omega
   by_cases h2:256<=au (au (x) 32) 16
   ·have lO:(256:Int)<=((au (au (x) 32) 16:Nat):Int):=by omega
    have hb:au (au (au (x) 32) 16) 8<256:=by (try simp only[au]at*);omega
    have ht:=Ep hb
    have hv:cK (UInt8.ofNat (bh (au (au (au (x) 32) 16) 8)))=(bh (au (au (au (x) 32) 16) 8):Int):=Er hb
    have hl:=CC hb
    simp(disch:=omega) [A.b247,jc,fH,lO,AY,ht,hv,az]
    have:=yE (k:=32) (n:=x) h0
    have:=yE (k:=16) (n:=au (x) 32) h1
    have:=yE (k:=8) (n:=au (au (x) 32) 16) h2
    first|exact ab.refl|exact And.intro ab.refl (by omega)
   ·have lO:¬(256:Int)<=((au (au (x) 32) 16:Nat):Int):=by omega
    have hb:au (au (x) 32) 16<256:=by (try simp only[au]at*);omega
    have ht:=Ep hb
    have hv:cK (UInt8.ofNat (bh (au (au (x) 32) 16)))=(bh (au (au (x) 32) 16):Int):=Er hb
    have hl:=CC hb
    simp(disch:=omega) [A.b247,jc,fH,lO,AY,ht,hv,az]
    have:=yE (k:=32) (n:=x) h0
    have:=yE (k:=16) (n:=au (x) 32) h1
    first|exact ab.refl|exact And.intro ab.refl (by omega)
  ·have fH:¬(65536:Int)<=((au (x) 32:Nat):Int):=by omega
   by_cases h2:256<=au (x) 32
   ·have lO:(256:Int)<=((au (x) 32:Nat):Int):=by omega
    have hb:au (au (x) 32) 8<256:=by (try simp only[au]at*);omega
    have ht:=Ep hb
    have hv:cK (UInt8.ofNat (bh (au (au (x) 32) 8)))=(bh (au (au (x) 32) 8):Int):=Er hb
    have hl:=CC hb
    simp(disch:=omega) [A.b247,jc,fH,lO,AY,ht,hv,az]
    have:=yE (k:=32) (n:=x) h0
    have:=yE (k:=8) (n:=au (x) 32) h2
    first|exact ab.refl|exact And.intro ab.refl (by omega)
   ·have lO:¬(256:Int)<=((au (x) 32:Nat):Int):=by omega
    have hb:au (x) 32<256:=by (try simp only[au]at*);omega
    have ht:=Ep hb
    have hv:cK (UInt8.ofNat (bh (au (x) 32)))=(bh (au (x) 32):Int):=Er hb
    have hl:=CC hb
    simp(disch:=omega) [A.b247,jc,fH,lO,AY,ht,hv,az]
    have:=yE (k:=32) (n:=x) h0
    first|exact ab.refl|exact And.intro ab.refl (by omega)
 ·have jc:¬(4294967296:Int)<=((x:Nat):Int):=by omega
  by_cases h1:65536<=x
  ·have fH:(65536:Int)<=((x:Nat):Int):=by omega
   by_cases h2:256<=au (x) 16
   ·have lO:(256:Int)<=((au (x) 16:Nat):Int):=by omega
    have hb:au (au (x) 16) 8<256:=by (try simp only[au]at*);omega
    have ht:=Ep hb
    have hv:cK (UInt8.ofNat (bh (au (au (x) 16) 8)))=(bh (au (au (x) 16) 8):Int):=Er hb
    have hl:=CC hb
    simp(disch:=omega) [A.b247,jc,fH,lO,AY,ht,hv,az]
    have:=yE (k:=16) (n:=x) h1
    have:=yE (k:=8) (n:=au (x) 16) h2
    first|exact ab.refl|exact And.intro ab.refl (by omega)
   ·have lO:¬(256:Int)<=((au (x) 16:Nat):Int):=by omega
    have hb:au (x) 16<256:=by (try simp only[au]at*);omega
    have ht:=Ep hb
    have hv:cK (UInt8.ofNat (bh (au (x) 16)))=(bh (au (x) 16):Int):=Er hb
    have hl:=CC hb
    simp(disch:=omega) [A.b247,jc,fH,lO,AY,ht,hv,az]
    have:=yE (k:=16) (n:=x) h1
    first|exact ab.refl|exact And.intro ab.refl (by omega)
  ·have fH:¬(65536:Int)<=((x:Nat):Int):=by omega
   by_cases h2:256<=x
   ·have lO:(256:Int)<=((x:Nat):Int):=by omega
    have hb:au (x) 8<256:=by (try simp only[au]at*);omega
    have ht:=Ep hb
    have hv:cK (UInt8.ofNat (bh (au (x) 8)))=(bh (au (x) 8):Int):=Er hb
    have hl:=CC hb
    simp(disch:=omega) [A.b247,jc,fH,lO,AY,ht,hv,az]
    have:=yE (k:=8) (n:=x) h2
    first|exact ab.refl|exact And.intro ab.refl (by omega)
   ·have lO:¬(256:Int)<=((x:Nat):Int):=by omega
    have hb:x<256:=by (try simp only[au]at*);omega
    have ht:=Ep hb
    have hv:cK (UInt8.ofNat (bh (x)))=(bh (x):Int):=Er hb
    have hl:=CC hb
    simp(disch:=omega) [A.b247,jc,fH,lO,AY,ht,hv,az]
    first|exact ab.refl|exact And.intro ab.refl (by omega)
def Ydg{h:T O}{N:Nat}{x:Nat}(hx:x<18446744073709551616):Fn A.C 250 [.int .u64 x] h N (fun v' h' N'=>h'=h/\N'=N/\v'=.int .i64 ((64-bh x:Nat))):=by
 intro w
 have hl:bh x<=64:=by
  by_cases h0:x=0
  ·subst h0;decide
  ·apply yp
   intro hc
   have:=Ja h0
   have:2^64<=2^(bh x-1):=sK (by decide) (by omega)
   omega
 rw[aO,A.k250 (by simp)]
 simp[A.b250]
 refine aA (V0 hx) ?_
 rintro _ _ _ hk ⟨rfl,rfl,rfl⟩
 simp(disch:=omega) [az]
 exact⟨hk,by omega⟩
variable {s x:Nat}
set_option maxHeartbeats 2000000
def A.mQ:av:=sr [bi 15 .lss 14 13]
 (.seq (cd 15
 (.skip)
 (.exit 0))
 (.seq (.block 1 (sr [mv 16 14,ia 17 1 12 14,ld 18 17,mv 6 16,mv 7 18]
 (.seq (.aX [mv 19 5,mv 20 6,ia 21 1 19 20,ld 22 21,mv 23 7,mv 24 1,bi 25 .shl 23 24,bi 26 .or 22 25,ia 27 1 19 20,so 27 26] [0,0,3,7,0,0,48,127,255,511])
 (sr [mv 28 1,bc 29 .gtr 28 0]
 (cd 29
 (.aR [mv 30 5,mv 31 6,bc 32 .add 31 1,mv 33 7,mv 34 1,ge 35 (.bin .sub (.node []) false (kq 64) (tq 34)),bi 36 .shr 33 35,ia 37 1 30 32,so 37 36])
 (.skip))))))
 (.aR [bc 38 .add 14 1,mv 14 38])))
def A.b251:av:=sr [mN 4]
 (sr [mv 8 0,ln 9 8,bc 10 .add 9 1,ge 11 (.bY 203 1 8 [.int .u64 0] (tq 10) (tq 10)),mv 5 11]
 (.seq (sr [mv 12 0,ln 13 12,mc 14 0]
 (.block 0 (.loop A.mQ)))
 (sr [mv 39 5,mv 4 39]
 (.ret))))
def A.c251:A.F 251=some ⟨40,[.tmp 4],A.b251⟩:=by kernel_rfl
def A.k251:=@A.kk 251 _ _ _ A.c251 rfl
def PJ{c:Nat}(hs:s<64)(hc:c<2^s):ja c (bU x s)=c+bU x s:=by
 unfold ja bU
 have e:x*2^s%18446744073709551616=(x%2^(64-s))<<<s:=by
  rw[Nat.shiftLeft_eq]
  have:(18446744073709551616:Nat)=2^(64-s)*2^s:=by rw[<-kQ,show 64-s+s=64 by omega]
  rw[this,Ke]
 rw[e,Nat.or_comm,Nat.add_comm,Nat.shiftLeft_add_eq_or_of_lt hc]
def Ybn(hs:s<=64):bU x s+B*au x (64-s)=x*2^s:=by
 unfold bU au
 have e:x/2^(64-s)=x*2^s/18446744073709551616:=by
  have:(18446744073709551616:Nat)=2^(64-s)*2^s:=by rw[<-kQ,show 64-s+s=64 by omega]
  rw[this,Oy _ _ (sN s)]
 rw[e]
 have:=tP (x*2^s) 18446744073709551616
 unfold B
 omega
def Yj3(hx:x<B)(hs:s<=64):au x (64-s)<2^s:=by
 unfold au
 apply (pz (sN _)).2
 rw[<-kQ,show s+(64-s)=64 by omega]
 exact hx
def Zpk{c:Nat}(hs:s<64)(hc:c<2^s):c+bU x s<B:=by
 rw[<-PJ hs hc]
 unfold ja
 apply Nat.or_lt_two_pow (n:=64)
 ·exact Nat.lt_trans hc (Nat.pow_lt_pow_right (by decide) hs)
 ·exact VQ
structure ShJ (h:T O) (N:Nat) (l:List Nat) (s k:Nat) (o:List Nat) (c:Nat) (r:T V) (st:St):Prop where
 hk:k<=l.length
 I9:r.get 14=some (.int .i64 k)
 n:st.n=N+1
 w:ax N st.w=[]
 ae:ab h N st.h (N+1)
 row:st.h.get N=some (.cells (dg o) 203 true)
 len:o.length=l.length+1
 dg:Dg o
 zero:∀t,k<t->t<o.length->o[t]?=some 0
 top:o[k]?=some c
 lc:c<2^s
 ex:val B o=val B (l.take k)*2^s
def ShI(h:T O)(N:Nat)(l:List Nat)(s m:Nat)(r:T V)(st:St):Prop:=∃k o c,m=l.length-k/\ShJ h N l s k o c r st
def ShE(h:T O)(N:Nat)(l:List Nat)(s:Nat)(r:T V)(st:St):Prop:=∃o c,ShJ h N l s l.length o c r st
def Zpm{h:T O}{N:Nat}{v:V}{l:List Nat}(hv:Sl h N v (Go.Mx.dg l))(hd:Dg l)(hs:s<64)(hl:l.length<1099511627776):Fn A.C 251 [v,.int .i64 s] h N (fun v' h' N'=>∃i o,N<=i/\i<N'/\v'=.slice i 0 (l.length+1) (some (l.length+1)) 1/\h'.get i=some (.cells (dg o) 203 true)/\o.length=l.length+1/\Dg o/\val B o=val B l*2^s):=by
 intro w
 have lx:=hv.len
 rw[bI]at lx
 rw[aO,A.k251 (by simp)]
 simp(disch:=first|(simp;done)|omega|(simp only[bI,cC,bD];omega)|rfl) [A.b251,lx]
 refine bP [(6,7),(14,38)] (fun e r st=>e=.exit 0/\ShE h N l s r st) (ShI h N l s) l.length ?_ ?_ ?_
 ·refine⟨0,List.replicate (l.length+1) 0,0,by omega,⟨by omega,by simp,by simp,by simp,ab.refl.set (aW _) |>.up (by omega),by simp[GF],by simp,?_,?_,by simp,sN s,by simp[val,Zrv]⟩⟩
  ·intro d hd
   rw[Io]at hd
   rw[hd.2];decide
  ·intro t _ ht
   simp at ht
   simp[ht]
 ·rintro m r ⟨H,n1,W⟩ hr hf ⟨k,o,c,rfl,hk,nZ,hn,hW,hK,hN,ho,Jg,hz,hc,A5,he⟩
  simp only at hn hW hK hN
  subst hn
  rw[bq]
  by_cases ay:k<l.length
  ·obtain⟨i1,o1,c1,e1,w1,p1,p2,p3,p4⟩:=hv.at (fv (cZ ay))
   have p3:=(hK.get _ p2).trans p3
   have gx:=cZ ay
   generalize l[k]=x at*
   have hx:x<B:=hd.get gx
   have Wm:c<18446744073709551616:=Jg.get hc
   have Ab:=PJ (x:=x) hs A5
   have cW:=Zpk (x:=x) hs A5
   obtain⟨z,Wo⟩:∃z,c+bU x s=z:=⟨_,rfl⟩
   rw[Wo]at Ab cW
   have zad:(o.set k z).length=l.length+1:=by simp[ho]
   have Ea:=Ybn (x:=x) (s:=s) (by omega)
   have cE:=Yj3 hx (s:=s) (by omega)
   have v1:=LB (b:=B) (v:=z) hc
   have vj:(o.set k z)[k+1]?=some 0:=by
    rw[ec (by omega)];exact hz _ (by omega) (by omega)
   have v2:=LB (b:=B) (v:=au x (64-s)) vj
   by_cases h0:0<s
   ·have jc:(0:Int)<(s:Int):=by omega
    simp(disch:=first|(simp;done)|omega|(simp only[bI,cC,bD];omega)|rfl) [-getElem?_pos,A.mQ,hr,nZ,ay,lx,p1,p3,p4,hN,fv hc,Ab,pR,h0,hf]
    refine⟨_,by omega,k+1,(o.set k z).set (k+1) (au x (64-s)),au x (64-s),rfl,⟨by omega,by simp,rfl,by simp[hW],(hK.set (aW _)).set (aW _),by simp,by simp[ho],(Jg.set cW).set (fE cE (sK (by decide) (by omega):2^s<=2^64)),?_,iI (by omega),cE,?_⟩⟩
    ·intro t t1 t2
     rw[ec (by omega),ec (by omega)]
     exact hz t (by omega) (by simpa using t2)
    ·rw[Em gx,iW,<-he]
     rw[<-Wo]at v1 v2 ⊢
     have e3:B^k*(bU x s+B*au x (64-s))=B^k*(x*2^s):=by rw[Ea]
     rw[gE]at v2
     generalize val B ((o.set k (c+bU x s)).set (k+1) (au x (64-s)))=z1 at*
     generalize val B (o.set k (c+bU x s))=z2 at*
     generalize val B o=z3 at*
     generalize bU x s=z4 at*
     generalize au x (64-s)=z5 at*
     generalize B^k=z6 at*
     grind
   ·have jc:¬(0:Int)<(s:Int):=by omega
    simp(disch:=first|(simp;done)|omega|(simp only[bI,cC,bD];omega)|rfl) [-getElem?_pos,A.mQ,hr,nZ,ay,lx,p1,p3,p4,hN,fv hc,Ab,pR,h0,hf]
    have lZ:s=0:=by omega
    subst lZ
    have fP:c=0:=by simpa using A5
    subst fP
    have e0:bU x 0=x:=by unfold bU;unfold B at hx;simp;omega
    have pL:z=x:=by rw[<-Wo,e0];omega
    subst pL
    refine⟨_,by omega,k+1,o.set k z,0,rfl,⟨by omega,by simp,rfl,by simp[hW],hK.set (aW _),by simp,by simp[ho],Jg.set hx,?_,?_,by decide,?_⟩⟩
    ·intro t t1 t2
     rw[ec (by omega)]
     exact hz t (by omega) (by simpa using t2)
    ·rw[ec (by omega)];exact hz _ (by omega) (by omega)
    ·rw[Em gx,iW,<-he]
     simpa using v1
  ·have:k=l.length:=by omega
   subst this
   simp[A.mQ,hr,nZ,hf]
   exact⟨o,c,⟨by omega,by simp[nZ],rfl,hW,hK,hN,ho,Jg,hz,hc,A5,he⟩⟩
 ·rintro _ r ⟨H,n1,W⟩ hr ⟨rfl,o,c,hk,nZ,hn,hW,hK,hN,ho,Jg,hz,hc,A5,he⟩
  simp only at hn hW hK hN
  subst hn
  simp[hr,az]
  rw[eZ (aW _)]at he
  exact⟨hW,hK,N,aW _,by omega,rfl,o,hN,ho,Jg,he⟩
open Go
variable {b q r:Nat}
def PW{u un cv ko:Nat}(hi:u=q*cv+r)(hc:q*ko<=b*r+un):q*(cv*b+ko)<=u*b+un:=by
 subst hi
 rw[sL,iW,<-Dz,iX r b]
 omega
def Zxm{u un cv ko:Nat}(hi:u=q*cv+r)(hc:b*r+un<q*ko):u*b+un<q*(cv*b+ko):=by
 subst hi
 rw[sL,iW,<-Dz,iX r b]
 omega
def Ztg{a y:Nat}(h:a<q*y):a/y<q:=by
 rcases FI y with rfl|hy
 ·simp at h
 ·exact(pz hy).2 h
def Jh{a y:Nat}(hy:0<y)(h:q*y<=a):q<=a/y:=(Ik hy).2 h
def Ynu{P u1 u2 U' v1 v2 V' s:Nat}(nK:0<v1)(B9:V'<P)(ht:s<=b)(hinv:u1=(s+1)*v1+r)(hc:(s+1)*v2<=r*b+u2):
  s*(V'+P*(v2+b*v1))<=U'+P*(u2+b*u1):=by
 have h1:s*V'<=b*P:=uI ht (by omega)
 have h2:b*P*1<=b*P*v1:=kg _ nK
 have h3:P*((s+1)*v2)<=P*(r*b+u2):=kg _ hc
 have h4:P*((s+1)*v2)=P*(s*v2)+P*v2:=by grind
 have h5:s*(V'+P*(v2+b*v1))=s*V'+P*(s*v2)+b*(P*(s*v1)):=by grind
 have h6:U'+P*(u2+b*u1)=U'+P*(r*b+u2)+b*(P*(s*v1))+b*P*v1:=by subst hinv;grind
 omega
def Ynt{P u1 u2 U' v1 v2 V' t:Nat}(B8:U'<P)(hinv:u1=t*v1+r)(hc:r*b+u2<t*v2):
  U'+P*(u2+b*u1)<t*(V'+P*(v2+b*v1)):=by
 have h3:P*(r*b+u2+1)<=P*(t*v2):=kg _ hc
 have h5:t*(V'+P*(v2+b*v1))=t*V'+P*(t*v2)+b*(P*(t*v1)):=by grind
 have h6:U'+P*(u2+b*u1)+P=U'+P*(r*b+u2+1)+b*(P*(t*v1)):=by subst hinv;grind
 omega
end Go.Mx
