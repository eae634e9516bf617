/-
  reconstruct.Dropped.
-/
import Derived.Test.YtlbophlgohokkaaGreatDoorCoB
set_option linter.all false
namespace Go.Mx
open Go Go.Proofs
variable {N k:Nat} {h:T O} {l:List Int} {v:V} {w:List Nat} {z:Int}
set_option maxHeartbeats 2000000
set_option maxRecDepth 1000000
def A.lb173_0:Zae:=sr [bi 9 .lss 8 7]
 (.seq (cd 9
 (.skip)
 (.exit 0))
 (.seq (.block 1 (sr [mv 10 8,mv 5 10]
 (sr [mv 11 1,mv 12 0,mv 13 5,ia 14 1 12 13,ld 15 14,⟨(some 16),.bin .eql (.prim .int) false (.tmp 11) (.tmp 15),none⟩]
 (cd 16
 (sr [mv 17 5,mv 4 17]
 (.ret))
 (.skip)))))
 (.reg [bc 18 .add 8 1,mv 8 18])))
def A.b173:Zae:=sr [mc 4 0]
 (.seq (sr [mv 6 0,ln 7 6,mc 8 0]
 (.block 0 (.loop A.lb173_0)))
 (sr [⟨(some 4),.mov (.const (.int .i64 (-1))),none⟩]
 (.ret)))
theorem A.c173:A.F 173=some ⟨19,[.tmp 4],A.b173⟩:=by kernel_rfl
def A.k173:=@A.kk 173 _ _ _ A.c173 rfl
def A.b108:Zae:=sr [⟨(some 4),.mov (.const (.bool false)),none⟩]
 (sr [mv 5 0,mv 6 1,c2 7 173 5 6,bc 8 .geq 7 0,mv 4 8]
 (.ret))
theorem A.c108:A.F 108=some ⟨9,[.tmp 4],A.b108⟩:=by kernel_rfl
def A.k108:=@A.kk 108 _ _ _ A.c108 rfl
def A.b109:Zae:=sr [mN 2]
 (.seq (sr [mv 3 0,⟨(some 4),.bin .eql (.prim .slice) true (.tmp 3) (.const .nilslice),none⟩]
 (cd 4
 (sr [mN 2]
 (.ret))
 (.skip)))
 (sr [⟨(some 5),.bslice 36 1 0 [] [],none⟩,mv 6 0,⟨(some 7),.append 1 16 36 [(.str [])] (.tmp 5) (.tmp 6),none⟩,mv 2 7]
 (.ret)))
theorem A.c109:A.F 109=some ⟨8,[.tmp 2],A.b109⟩:=by kernel_rfl
def A.k109:=@A.kk 109 _ _ _ A.c109 rfl
def A.lb26_0:Zae:=sr [bi 61 .lss 60 59]
 (.seq (cd 61
 (.skip)
 (.exit 2))
 (.seq (.block 3 (sr [mv 62 60,ia 63 1 58 60,ld 64 63,mv 11 62,mv 12 64]
 (sr [mv 65 1,mv 66 11,c2 67 108 65 66,⟨(some 68),.un .not (.tmp 67),none⟩]
 (cd 68
 (.reg [mv 69 10,mv 70 12,c1 71 109 70,⟨(some 72),.bslice 23 1 1 [.nilslice] [(0,1,(.tmp 71))],none⟩,⟨(some 73),.append 1 24 23 [.nilslice] (.tmp 69) (.tmp 72),none⟩,mv 10 73])
 (.skip)))))
 (.reg [bc 74 .add 60 1,mv 60 74])))
def A.lb26_1:Zae:=sr [bi 21 .lss 20 19]
 (.seq (cd 21
 (.skip)
 (.exit 0))
 (.seq (.block 1 (sr [mv 22 20,ia 23 1 18 20,ld 24 23,mv 7 22,mv 8 24]
 (sr [mv 25 8,bc 26 .lss 25 0,mv 27 26,mh 28 8 27,mh 29 0 27,⟨(some 30),.len 1 (.tmp 29),(some (27,false))⟩,⟨(some 31),.bin .geq (.node []) false (.tmp 28) (.tmp 30),(some (27,false))⟩,pt 32 27 31,⟨(some 33),.call (.const (.func 75 [] [])) [(.tmp 32),(.const (.int .i64 10))],none⟩,mv 34 7,bc 35 .gtr 34 0,mv 36 35,mg 37 8 36,mg 38 1 36,mg 39 7 36,⟨(some 40),.bin .sub (.node []) false (.tmp 39) (.const (.int .i64 1)),(some (36,true))⟩,⟨(some 41),.mx [(.const (.int .i64 0)),(.tmp 40)],(some (36,true))⟩,⟨(some 42),.iaddrSl 1 (.tmp 38) (.tmp 41),(some (36,true))⟩,⟨(some 43),.load none (.tmp 42),(some (36,true))⟩,⟨(some 44),.bin .leq (.node []) false (.tmp 37) (.tmp 43),(some (36,true))⟩,pf 45 36 44,⟨(some 46),.call (.const (.func 75 [] [])) [(.tmp 45),(.const (.int .i64 11))],none⟩,⟨(some 47),.bslice 27 1 2 [(.int .i64 0),(.int .i64 0)] [(0,1,(.tmp 33)),(1,1,(.tmp 46))],none⟩,c1 48 74 47,mv 9 48]
 (sr [mv 49 9,ni 50 49 0]
 (cd 50
 (sr [mv 51 9,mN 4,mv 5 51]
 (.ret))
 (.skip))))))
 (.reg [bc 52 .add 20 1,mv 20 52])))
def A.b26:Zae:=sr [mN 4,mc 5 0]
 (.seq (sr [mv 13 0,c1 14 47 13,mv 6 14]
 (sr [mv 15 6,ni 16 15 0]
 (cd 16
 (sr [mv 17 6,mN 4,mv 5 17]
 (.ret))
 (.skip))))
 (.seq (sr [mv 18 1,ln 19 18,mc 20 0]
 (.block 0 (.loop A.lb26_1)))
 (.seq (sr [mv 53 1,ln 54 53,mv 55 0,ln 56 55,⟨(some 57),.bin .eql (.prim .int) false (.tmp 54) (.tmp 56),none⟩]
 (cd 57
 (sr [mN 4,mc 5 12]
 (.ret))
 (.skip)))
 (sr [mN 10]
 (.seq (sr [mv 58 0,ln 59 58,mc 60 0]
 (.block 2 (.loop A.lb26_0)))
 (sr [mv 75 10,mv 4 75,mc 5 0]
 (.ret)))))))
theorem A.c26:A.F 26=some ⟨76,[.tmp 4,.tmp 5],A.b26⟩:=by kernel_rfl
def A.k26:=@A.kk 26 _ _ _ A.c26 rfl
def Ybz(z:Int):List Int→Nat→Int
 |[],_=> -1
 |x::l,k=>if z=x then k else Ybz z l (k+1)
theorem Zvt{z:Int}:∀{l:List Int} {k:Nat},decide (0≤Ybz z l k)=l.contains z
 |[],k=>by simp[Ybz]
 |x::l,k=>by
  unfold Ybz
  by_cases e:z=x
  ·rw[Yru e];subst e;simp
  ·rw[Yrq e,Zvt,List.contains_cons]
   have:(z==x)=false:=by simpa using e
   rw[this,Bool.false_or]
theorem Ypk(hs:Sl h N v (dI l))(hl:l.length<100000):A.C.call (.func 173 [] []) [v,.int .i64 z] ⟨h,N,w⟩=some (.int .i64 (Ybz z l 0),⟨h,N,w⟩):=by
 apply Call.eq
 have lg:=hs.len
 rw[Zas]at lg
 rw[Zaa,A.k173 (by simp)]
 simp[A.b173,lg]
 refine Zaj [(4,5),(8,18)] (fun e r st=>st=⟨h,N,[]⟩∧((e=.exit 0∧Ybz z l 0= -1)∨(e=.ret∧r.get 4=some (.int .i64 (Ybz z l 0))))) (fun m r st=>st=⟨h,N,[]⟩∧∃k,k+m=l.length∧r.get 8=some (.int .i64 k)∧Ybz z l 0=Ybz z (l.drop k) k) l.length ?_ ?_ ?_
 ·exact⟨rfl,0,by omega,by simp,by simp⟩
 ·rintro m r _ hr hf ⟨rfl,k,hk,h8,hz⟩
  rw[Zah]
  cases m with
  |zero=>
   obtain rfl:k=l.length:=by omega
   rw[Ysq,Ybz]at hz
   simp[A.lb173_0,hr,hf,h8,hz]
  |succ m=>
   have hlt:k<l.length:=by omega
   have hk1:(k:Int)<(l.length:Int):=by omega
   obtain⟨s,hc⟩:=Zag hlt
   obtain⟨i,o,cc,e,rw,q1,q2,q3,q4⟩:=hs.at (Zba hc)
   rw[Zao hc,Ybz]at hz
   by_cases c4:z=s
   ·rw[Yru c4]at hz
    subst c4
    simp[A.lb173_0,hr,hf,h8,hk1,lg,q1,q3,q4,hz]
   ·rw[Yrq c4]at hz
    simp(disch:=first|(simp;done)|omega|rfl) [A.lb173_0,hr,hf,h8,hk1,lg,q1,q3,q4,c4]
    exact⟨m,by omega,k+1,by omega,by simp,by simpa using hz⟩
 ·rintro e r _ hr ⟨rfl,⟨rfl,hq⟩|⟨rfl,h2⟩⟩
  ·simp[hq]
  ·simp[h2]
theorem Ylh(hs:Sl h N v (dI l))(hl:l.length<100000):A.C.call (.func 108 [] []) [v,.int .i64 z] ⟨h,N,w⟩=some (.bool (l.contains z),⟨h,N,w⟩):=by
 apply Call.eq
 have hi:=fun w=>Ypk (z:=z) (w:=w) hs hl
 rw[Zaa,A.k108 (by simp)]
 rw[←Zvt (k:=0)]
 simp[A.b108,hi]
theorem Ymm{i o:Nat}{cp:Option Nat}{c l:List V}{e:TypeId}{rw:Bool}(h3:h.get i=some (.cells c e rw))(h4:∀j,j<l.length→c[o+j]?=l[j]?)(h5:o+l.length≤c.length):Za2 ⟨h,N,w⟩ 1 (.slice i o l.length cp 1)=some (l.length,l):=by
 have:slc c o (l.length*1)=some l:=by
  unfold slc
  rw[Yru (by omega),Yup]
  congr 1
  apply Ysk
  intro j
  by_cases hj:j<l.length
  ·rw[Ysb,Yru hj,Yr0];exact h4 j hj
  ·rw[Yr2 (by simp;omega),Yr2 (by omega)]
 simp only[Za2,if_true,St.row,h3,this]
theorem Ygr{l:List Rat}(hs:Tx h N v l)(h0:0<l.length)(hl:l.length<1000000):Fn A.C 109 [v] h N (fun x h' n'=>TxT h' n' x l∧∀i∈Zeg x,N≤i):=by
 intro w
 unfold Tx at hs
 rcases hs with⟨hn,_⟩|⟨i,o,cp,c,e,rw,rfl,h2,h3,h4,h5,h6⟩
 ·have:=congrArg List.length hn
  rw[Zh9,List.length_nil]at this
  omega
 have hne:¬i=N:=by omega
 have hne2:l≠[]:=fun hc=>by rw[hc]at h0;simp at h0
 have h3':(h.set N (.cells [] 36 true)).get i=some (.cells c e rw):=by rw[T.get_set,Yrq hne];exact h3
 have ha:∀w,Zb2 ⟨h.set N (.cells [] 36 true),N+1,w⟩ 1 16 36 (.slice N 0 0 (some 0) 1) (.slice i o (tx l).length cp 1)=some (.slice (N+1) 0 (tx l).length none 1,⟨(h.set N (.cells [] 36 true)).set (N+1) (.cells (tx l) 36 true),N+1+1,w⟩):=fun w=>by
  have hg:(h.set N (.cells [] 36 true)).get N=some (.cells [] 36 true):=by simp
  have hb:(tx l).length=l.length:=Zh9 l
  simp only[Zb2,Ymm (cp:=cp) h3' h4 h5,Zdl,St.row,hg,slc,St.alloc]
  simp[hb,hne2]
  omega
 rw[Zaa,A.k109 (by simp)]
 simp[A.b109,Zaq,Zlc,ha,Ret]
 have kB:Keeps h N ((h.set N (.cells [] 36 true)).set (N+1) (.cells (tx l) 36 true)) (N+1+1):=(Keeps.refl.new _).new _
 refine⟨kB,⟨Sl.row (e:=36) (rw:=true) (by omega) (by simp) rfl (fun k hk=>by cases hk),fun j hj=>?_⟩,fun j hj=>?_⟩
 ·simp[Zeg]at hj;subst hj;exact⟨_,_,by rw[T.get_set,Yru rfl]⟩
 ·simp[Zeg]at hj;omega
def Zhd(l:List Int)(d i:Nat):Int:=if l[i]?.getD 0<0∨(d:Int)≤l[i]?.getD 0 then 10 else if 0<i∧l[i]?.getD 0≤l[i-1]?.getD 0 then 11 else 0
def Zr4(l:List Int)(d:Nat):Int:=Zak ((List.range l.length).map (Zhd l d))
def Znz(l:List Int)(d:Nat):Int:=if Zr4 l d=0 then (if l.length=d then 12 else 0) else Zr4 l d
theorem Zxt{k:IntKind}{a b:Int}:Ybe [.int k a,.int k b]=some (.int k (if a<b then b else a)):=rfl
theorem Zoj{n:Nat}(h:k<n):(List.range n).drop k=k::(List.range n).drop (k+1):=Zao (by simp[h])
def Zow(m:List (List Rat))(l:List Int)(k:Nat):List (List Rat):=((List.range k).filter fun i:Nat=>!(l.contains (i:Int))).map fun i=>m[i]?.getD []
theorem Zr3{m:List (List Rat)}{r:List Rat}(h:m[k]?=some r):Zow m l (k+1)=Zow m l k++(if l.contains (k:Int)=true then [] else [r]):=by
 unfold Zow
 rw[List.range_succ,List.filter_append,List.map_append]
 congr 1
 cases hc:l.contains (k:Int)<;>simp<;>simp_all
theorem Zlw{m:List (List Rat)}:(Zow m l k).length≤k:=by
 unfold Zow
 rw[Yt9]
 exact Ytg (List.length_filter_le _ _) (by simp)
def Yly(e:Int)(m:List (List Rat))(x:V)(h:T O)(n:Nat):Prop:=(e≠0∧x=.tup [.nilslice,.int .i64 e])∨(e=0∧∃v,x=.tup [v,.int .i64 0]∧TxM h n v m)
def Yh1(m:List (List Str))(l:List Int):Int:=Zak [Zhh m 64 16,Znz l m.length]
theorem Yk5{u:V}{m:List (List Str)}(hm:MtS h N u m)(hv:Sl h N v (dI l))(sm:Zco 6 6 m=true)(hl:l.length<100000):Fn A.C 26 [u,v] h N (fun x h' n'=>Yly (Yh1 m l) (Zow (Zgs m) l m.length) x h' n'):=by
 intro w
 obtain⟨m1,m2⟩:=Zhr sm
 have ml:=hm.len
 have lg:=hv.len
 rw[Zas]at lg
 rw[Zaa,A.k26 (by simp)]
 simp[A.b26]
 refine Zab (Zpm hm m1 m2) ?_
 rintro _ H1 n1 k1 rfl
 have le1:=k1.le
 by_cases hE:Zhh m 64 16=0
 ·have hM:=Zh2 hE sm
  have e1:Yh1 m l=Znz l m.length:=by simp[Yh1,Zak,hE];exact fun h=>h.symm
  simp[hE,lg]
  have kz:Keeps h N H1 n1:=k1
  refine Zaj [(4,5),(7,9),(20,52)] (fun e r st=>Zac N st.w=[]∧Keeps h N st.h st.n∧((e=.exit 0∧Zr4 l m.length=0)∨(e=.ret∧Zr4 l m.length≠0∧r.get 4=some .nilslice∧r.get 5=some (.int .i64 (Zr4 l m.length))))) (fun i r st=>Zac N st.w=[]∧Keeps h N st.h st.n∧∃k,k+i=l.length∧r.get 20=some (.int .i64 k)∧Zr4 l m.length=Zak (((List.range l.length).drop k).map (Zhd l m.length))) l.length ?_ ?_ ?_
  ·exact⟨by simp,k1,0,by omega,by simp,by simp[Zr4]⟩
  ·rintro i r ⟨H,n2,W⟩ hr hf ⟨hW,hK,k,hk,h20,hz⟩
   simp only at hW hK
   rw[Zah]
   cases i with
   |zero=>
    obtain rfl:k=l.length:=by omega
    rw[Ysn (by simp),Ytn,Zak]at hz
    simp[A.lb26_1,hr,hf,h20,hz,hW,hK]
   |succ i=>
    have hlt:k<l.length:=by omega
    have hk1:(k:Int)<(l.length:Int):=by omega
    obtain⟨z,hc⟩:=Zag hlt
    obtain⟨p,o,cc,e,rw,q1,q2,q3,q4⟩:=(hv.keep hK).at (Zba hc)
    rw[Zoj hlt,Yso,Zak]at hz
    have dz:l[k]?.getD 0=z:=by rw[hc];rfl
    have hn:=hK.le
    have mlr:Zlh u=some m.length:=ml
    by_cases cA:z<0
    ·by_cases k0:k=0
     ·have kk0:¬0<k:=by omega
      have e1:Zhd l m.length k=10:=by unfold Zhd;rw[dz];simp[cA]<;>omega
      rw[e1]at hz
      simp[A.lb26_1,hr,hf,h20,hk1,lg,q1,q3,q4,Zey,splice,Zf6,Zak,cA,kk0]
      rw[Yrq (by decide)]at hz
      simp[hz,hW]
      exact hK.trans (Keeps.refl.new _)
     ·obtain⟨y,hy⟩:=Zag (l:=l) (k:=k-1) (by omega)
      have dy:l[k-1]?.getD 0=y:=by rw[hy];rfl
      obtain⟨p2,o2,cc2,ee2,rw2,t1,t2,t3,t4⟩:=(hv.keep hK).at (Zba hy)
      have kk0:0<k:=by omega
      have km:(if (1:Int)<(k:Int) then (k:Int)-1 else 0).toNat=k-1:=by split<;>omega
      have kw:Zar .i64 ((k:Int)-1)=(k:Int)-1:=Zai (by omega) (by omega)
      have kl:((k-1:Nat):Int)<(l.length:Int):=by omega
      have kl2:k-1<l.length:=by omega
      rw[q1]at t1
      simp only[Yro,Yrs]at t1
      obtain⟨rfl,rfl⟩:=t1
      rw[q3]at t3
      simp only[Yro,O.cells.injEq]at t3
      obtain⟨rfl,rfl,rfl⟩:=t3
      by_cases cD:z≤y
      ·have e1:Zhd l m.length k=10:=by unfold Zhd;rw[dz];simp[cA]<;>omega
       rw[e1]at hz
       simp(disch:=first|(simp;done)|omega|rfl) [A.lb26_1,hr,hf,h20,hk1,lg,q1,q3,q4,Zey,splice,Zf6,Zak,cA,cD,kk0,Zeh,Zxt,km,kw,t4]
       rw[Yrq (by decide)]at hz
       simp[hz,hW]
       exact hK.trans (Keeps.refl.new _)
      ·have e1:Zhd l m.length k=10:=by unfold Zhd;rw[dz];simp[cA]<;>omega
       rw[e1]at hz
       simp(disch:=first|(simp;done)|omega|rfl) [A.lb26_1,hr,hf,h20,hk1,lg,q1,q3,q4,Zey,splice,Zf6,Zak,cA,cD,kk0,Zeh,Zxt,km,kw,t4]
       rw[Yrq (by decide)]at hz
       simp[hz,hW]
       exact hK.trans (Keeps.refl.new _)
    ·by_cases cB:(m.length:Int)≤z
     ·by_cases k0:k=0
      ·have kk0:¬0<k:=by omega
       have e1:Zhd l m.length k=10:=by unfold Zhd;rw[dz];simp[cA,cB]<;>omega
       rw[e1]at hz
       simp[A.lb26_1,hr,hf,h20,hk1,lg,mlr,q1,q3,q4,Zey,splice,Zf6,Zak,cA,cB,kk0]
       rw[Yrq (by decide)]at hz
       simp[hz,hW]
       exact hK.trans (Keeps.refl.new _)
      ·obtain⟨y,hy⟩:=Zag (l:=l) (k:=k-1) (by omega)
       have dy:l[k-1]?.getD 0=y:=by rw[hy];rfl
       obtain⟨p2,o2,cc2,ee2,rw2,t1,t2,t3,t4⟩:=(hv.keep hK).at (Zba hy)
       have kk0:0<k:=by omega
       have km:(if (1:Int)<(k:Int) then (k:Int)-1 else 0).toNat=k-1:=by split<;>omega
       have kw:Zar .i64 ((k:Int)-1)=(k:Int)-1:=Zai (by omega) (by omega)
       have kl:((k-1:Nat):Int)<(l.length:Int):=by omega
       have kl2:k-1<l.length:=by omega
       rw[q1]at t1
       simp only[Yro,Yrs]at t1
       obtain⟨rfl,rfl⟩:=t1
       rw[q3]at t3
       simp only[Yro,O.cells.injEq]at t3
       obtain⟨rfl,rfl,rfl⟩:=t3
       by_cases cD:z≤y
       ·have e1:Zhd l m.length k=10:=by unfold Zhd;rw[dz];simp[cA,cB]<;>omega
        rw[e1]at hz
        simp(disch:=first|(simp;done)|omega|rfl) [A.lb26_1,hr,hf,h20,hk1,lg,mlr,q1,q3,q4,Zey,splice,Zf6,Zak,cA,cB,cD,kk0,Zeh,Zxt,km,kw,t4]
        rw[Yrq (by decide)]at hz
        simp[hz,hW]
        exact hK.trans (Keeps.refl.new _)
       ·have e1:Zhd l m.length k=10:=by unfold Zhd;rw[dz];simp[cA,cB]<;>omega
        rw[e1]at hz
        simp(disch:=first|(simp;done)|omega|rfl) [A.lb26_1,hr,hf,h20,hk1,lg,mlr,q1,q3,q4,Zey,splice,Zf6,Zak,cA,cB,cD,kk0,Zeh,Zxt,km,kw,t4]
        rw[Yrq (by decide)]at hz
        simp[hz,hW]
        exact hK.trans (Keeps.refl.new _)
     ·by_cases k0:k=0
      ·have kk0:¬0<k:=by omega
       have e1:Zhd l m.length k=0:=by unfold Zhd;rw[dz];simp[k0,cA,cB]<;>omega
       rw[e1]at hz
       simp(disch:=first|(simp;done)|omega|rfl) [A.lb26_1,hr,hf,h20,hk1,lg,mlr,q1,q3,q4,Zey,splice,Zf6,Zak,cA,cB,kk0]
       rw[Yru rfl]at hz
       exact⟨i,by omega,by simp[hW],hK.trans (Keeps.refl.new _),k+1,by omega,by simp,by simpa using hz⟩
      ·obtain⟨y,hy⟩:=Zag (l:=l) (k:=k-1) (by omega)
       have dy:l[k-1]?.getD 0=y:=by rw[hy];rfl
       obtain⟨p2,o2,cc2,ee2,rw2,t1,t2,t3,t4⟩:=(hv.keep hK).at (Zba hy)
       have kk0:0<k:=by omega
       have km:(if (1:Int)<(k:Int) then (k:Int)-1 else 0).toNat=k-1:=by split<;>omega
       have kw:Zar .i64 ((k:Int)-1)=(k:Int)-1:=Zai (by omega) (by omega)
       have kl:((k-1:Nat):Int)<(l.length:Int):=by omega
       have kl2:k-1<l.length:=by omega
       rw[q1]at t1
       simp only[Yro,Yrs]at t1
       obtain⟨rfl,rfl⟩:=t1
       rw[q3]at t3
       simp only[Yro,O.cells.injEq]at t3
       obtain⟨rfl,rfl,rfl⟩:=t3
       by_cases cD:z≤y
       ·have e1:Zhd l m.length k=11:=by unfold Zhd;rw[dz];simp[dy,cD,cA,cB]<;>omega
        rw[e1]at hz
        simp(disch:=first|(simp;done)|omega|rfl) [A.lb26_1,hr,hf,h20,hk1,lg,mlr,q1,q3,q4,Zey,splice,Zf6,Zak,cA,cB,cD,kk0,Zeh,Zxt,km,kw,t4]
        rw[Yrq (by decide)]at hz
        simp[hz,hW]
        exact hK.trans (Keeps.refl.new _)
       ·have e1:Zhd l m.length k=0:=by unfold Zhd;rw[dz];simp[dy,cD,cA,cB]<;>omega
        rw[e1]at hz
        simp(disch:=first|(simp;done)|omega|rfl) [A.lb26_1,hr,hf,h20,hk1,lg,mlr,q1,q3,q4,Zey,splice,Zf6,Zak,cA,cB,cD,kk0,Zeh,Zxt,km,kw,t4]
        rw[Yru rfl]at hz
        exact⟨i,by omega,by simp[hW],hK.trans (Keeps.refl.new _),k+1,by omega,by simp,by simpa using hz⟩
  ·rintro _ r ⟨H,n2,W⟩ hr ⟨hW,hK,⟨rfl,hz⟩|⟨rfl,hz,h4,h5⟩⟩
   ·simp only at hW hK
    have e2:Znz l m.length=if l.length=m.length then 12 else 0:=by unfold Znz;rw[Yru hz]
    have ce:((l.length:Int)=(m.length:Int))=(l.length=m.length):=by apply propext;omega
    by_cases c1:l.length=m.length
    ·rw[Yru c1]at e2
     simp[hr,lg,ml,c1,Ret,hW]
     exact⟨hK,.inl ⟨by rw[e1,e2];decide,by rw[e1,e2]⟩⟩
    ·rw[Yrq c1]at e2
     have hu:=hm.rat fun r hr=>(hM.row r hr).2
     have em:(Zgs m).length=m.length:=by simp[Zgs]
     have m6:=hM.le
     simp[hr,lg,ml,ce,c1]
     refine Zaj [(10,12),(60,74)] (fun e r st=>e=.exit 2∧Zac N st.w=[]∧Keeps h N st.h st.n∧∃x,r.get 10=some x∧MtO N st.h st.n x (Zow (Zgs m) l m.length)) (fun i r st=>Zac N st.w=[]∧Keeps h N st.h st.n∧∃k x,k+i=m.length∧r.get 60=some (.int .i64 k)∧r.get 10=some x∧MtO N st.h st.n x (Zow (Zgs m) l k)) m.length ?_ ?_ ?_
     ·exact⟨hW,hK,0,.nilslice,by omega,by simp,by simp,by simpa[Zow]using MtO.nil⟩
     ·rintro i r2 ⟨H2,n3,W2⟩ hr2 hf2 ⟨hW2,hK2,k,x,hk,h60,h10,ho⟩
      simp only at hW2 hK2 ho
      rw[Zah]
      cases i with
      |zero=>
       obtain rfl:k=m.length:=by omega
       simp[A.lb26_0,hr2,hf2,h60,h10,hW2,hK2]
       exact ho
      |succ i=>
       have hlt:k<m.length:=by omega
       have hlt':(k:Int)<(m.length:Int):=by omega
       obtain⟨row,hrow⟩:=Zag (l:=Zgs m) (k:=k) (by omega)
       obtain⟨b1,b2⟩:=hM.rat row (Yrv hrow)
       have n1':=hM.n1
       have n6:=hM.n6
       obtain⟨p,o,cc,e,rw,ru,q1,q2,q3,q4,q5⟩:=(hu.keep hK2).at hrow
       have hct:=fun w=>Ylh (w:=w) (z:=(k:Int)) (hv.keep hK2) hl
       have hsc:=Zr3 (l:=l) hrow
       cases hb:l.contains (k:Int)with
       |true=>
        rw[hb]at hct hsc
        simp only[if_true,Ytm]at hsc
        simp(disch:=first|(simp;done)|omega|rfl) [A.lb26_0,hr,hr2,hf2,h60,h10,hlt',ml,q1,q3,q4,hct]
        exact⟨i,by omega,hW2,hK2,k+1,by omega,by simp,by rw[hsc];exact ho⟩
       |false=>
        rw[hb]at hct hsc
        simp only[Yry,if_false]at hsc
        simp[A.lb26_0,hr,hr2,h60,h10,hlt',ml,q1,q3,q4,hct]
        refine Zab (Ygr q5 (by omega) (by omega)) ?_
        rintro y H3 n4 k3 ⟨hy,hyf⟩
        have le3:=k3.le
        have f1:=Sl.form hy.1
        have o1:=f1.one
        have o2:=f1.cells
        unfold V.one at o1
        unfold V.cells at o2
        have e4:splice [V.nilslice] 0 [y]=[y]:=rfl
        have kN:Keeps H3 n4 (H3.set n4 (.cells [y] 23 true)) (n4+1):=Keeps.refl.new _
        have dl:=Zlw (m:=Zgs m) (l:=l) (k:=k)
        have hle:=hK2.le
        obtain⟨v',h',w',f1,f2,f3,f4⟩:=((ho.keep k3).keep kN).push (w:=W2) (x:=.slice n4 0 1 (some 1) 1) (hy.keep kN) (by omega) (by simp[Za2,St.row,slc]) (by omega)
        rw[←hsc]at f4
        simp(disch:=first|(simp;done)|omega|rfl) [hf2,h60,o1,o2,e4,f1]
        exact⟨i,by omega,by rw[f2];exact hW2,((hK2.trans k3).trans kN).then f3,k+1,by omega,by simp,f4⟩
     ·rintro _ r2 ⟨H2,n3,W2⟩ hr2 ⟨rfl,hW2,hK2,x,h10,ho⟩
      simp only at hW2 hK2 ho
      simp[h10,Ret,hW2,hK2]
      exact .inr ⟨by rw[e1,e2],x,rfl,ho.txm⟩
   ·simp only at hW hK
    have e2:Znz l m.length=Zr4 l m.length:=by unfold Znz;rw[Yrq hz]
    simp[h4,h5,Ret,hW]
    exact⟨hK,.inl ⟨by rw[e1,e2];exact hz,by rw[e1,e2]⟩⟩
 ·simp[hE,Ret]
  refine⟨k1,.inl ⟨?_,?_⟩⟩<;>simp[Yh1,Zak,hE]
variable {N:Nat} {a b:List Rat} {h:T O} {u:V}
def A.lb112_0:Zae:=.seq (sr [mv 7 6,mv 8 0,ln 9 8,bi 10 .lss 7 9]
 (cd 10
 (.skip)
 (.exit 0)))
 (.seq (.block 1 (.regD [mv 13 5,mv 14 0,mv 15 6,ia 16 1 14 15,ld 17 16,mv 18 1,mv 19 6,ia 20 1 18 19,ld 21 20,c2 22 95 17 21,⟨(some 23),.bslice 36 1 1 [(.str [])] [(0,1,(.tmp 22))],none⟩,⟨(some 24),.append 1 16 36 [(.str [])] (.tmp 13) (.tmp 23),none⟩,mv 5 24] [0,0,0,6,14,0,0,96,224,510,1022,2047,4095]))
 (.reg [mv 11 6,bc 12 .add 11 1,mv 6 12]))
def A.b112:Zae:=sr [mN 4]
 (sr [mN 5]
 (.seq (sr [mc 6 0]
 (.block 0 (.loop A.lb112_0)))
 (sr [mv 25 5,mv 4 25]
 (.ret))))
theorem A.c112:A.F 112=some ⟨26,[.tmp 4],A.b112⟩:=by kernel_rfl
def A.k112:=@A.kk 112 _ _ _ A.c112 rfl
def A.lb113_0:Zae:=.seq (sr [mv 7 6,mv 8 0,ln 9 8,bi 10 .lss 7 9]
 (cd 10
 (.skip)
 (.exit 0)))
 (.seq (.block 1 (.reg [mv 13 5,mv 14 0,mv 15 6,ia 16 1 14 15,ld 17 16,mv 18 1,c2 19 96 17 18,⟨(some 20),.bslice 36 1 1 [(.str [])] [(0,1,(.tmp 19))],none⟩,⟨(some 21),.append 1 16 36 [(.str [])] (.tmp 13) (.tmp 20),none⟩,mv 5 21]))
 (.reg [mv 11 6,bc 12 .add 11 1,mv 6 12]))
def A.b113:Zae:=sr [mN 4]
 (sr [mN 5]
 (.seq (sr [mc 6 0]
 (.block 0 (.loop A.lb113_0)))
 (sr [mv 22 5,mv 4 22]
 (.ret))))
theorem A.c113:A.F 113=some ⟨23,[.tmp 4],A.b113⟩:=by kernel_rfl
def A.k113:=@A.kk 113 _ _ _ A.c113 rfl
def A.b32:Zae:=sr [mN 6]
 (sr [mv 7 1,mv 8 0,mv 9 2,c2 10 18 8 9,⟨(some 11),.call (.const (.func 113 [] [])) [(.tmp 10),(.const (.str [45,49]))],none⟩,c2 12 112 7 11,mv 6 12]
 (.ret))
theorem A.c32:A.F 32=some ⟨13,[.tmp 6],A.b32⟩:=by kernel_rfl
def A.k32:=@A.kk 32 _ _ _ A.c32 rfl
theorem Zzx{c:Rat}{j k:Nat}(hu:Tx h N u a)(ha:∀q∈a,Qb j q)(hc:Qb k c)(hj:j≤400000)(hk:k≤400000)(hl:a.length<100000):Fn A.C 113 [u,.str (Za1 c)] h N (fun x h' n'=>Own 1 36 N h' n' x ((tx (a.map fun q=>q*c)).map fun y=>[y])):=by
 intro w
 have l1:=hu.len
 rw[Zaa,A.k113 (by simp)]
 simp[A.b113]
 refine Zaj [(5,21)] (fun e r st=>e=.exit 0∧Zac N st.w=[]∧Keeps h N st.h st.n∧∃x,r.get 5=some x∧Own 1 36 N st.h st.n x ((tx (a.map fun q=>q*c)).map fun y=>[y])) (fun i r st=>Zac N st.w=[]∧Keeps h N st.h st.n∧∃t x,t+i=a.length∧r.get 6=some (.int .i64 t)∧r.get 5=some x∧Own 1 36 N st.h st.n x ((tx ((a.take t).map fun q=>q*c)).map fun y=>[y])) (a.length) ?_ ?_ ?_
 ·exact⟨by simp,Keeps.refl,0,.nilslice,by omega,by simp,by simp,by simpa[tx,strs]using Own.nil⟩
 ·rintro i r ⟨H,n1,W⟩ hr hf ⟨hW,hK,t,x,ht,h6,h5,ho⟩
  simp only at hW hK ho
  rw[Zah]
  cases i with
  |zero=>
   obtain rfl:t=a.length:=by omega
   rw[Ytq]at ho
   simp[A.lb113_0,hr,hf,h6,h5,l1,hW,hK]
   exact ho
  |succ i=>
   have hlt:t<a.length:=by omega
   have hlt':(t:Int)<((a.length:Nat):Int):=by omega
   obtain⟨q,hq⟩:=Zag hlt
   have hqb:=ha q (Yrv hq)
   obtain⟨i',o,cc,e,rw,q1,q2,q3,q4⟩:=(hu.keep hK).at (Zjd hq)
   simp[A.lb113_0,hr,h6,h5,l1,hlt',q1,q3,q4]
   refine Zab (Zpt hqb hc hj hk) ?_
   rintro _ H2 n2 k2 rfl
   have le2:=k2.le
   have nle:=hK.le
   obtain⟨v',h',w',f1,f2,f3,_,f5⟩:=Zbj (x:=[.str (Za1 (q*c))]) (u:=.slice n2 0 1 (some 1) 1) (bytes:=16) (w:=W) ((ho.keep k2).keep (Keeps.refl.new (.cells [.str (Za1 (q*c))] 36 true))) (by omega) (by decide) rfl (by simp[Za2,St.row,slc]) (by simp[Zh9];omega)
   have e7:((tx ((a.take t).map fun q=>q*c)).map fun y=>[y])++[[.str (Za1 (q*c))]]=(tx ((a.take (t+1)).map fun q=>q*c)).map fun y=>[y]:=by rw[Yt1,hq];simp[tx,strs]
   rw[e7]at f5
   simp(disch:=first|(simp;done)|omega|rfl) [hf,h6,splice,f1]
   exact⟨i,by omega,by rw[f2];exact hW,((hK.trans k2).trans (Keeps.refl.new (.cells [.str (Za1 (q*c))] 36 true))).then f3,t+1,by omega,by simp,by rw[←List.map_take];exact f5⟩
 ·rintro _ r ⟨H,n1,W⟩ hr ⟨rfl,hW,hK,x,h5,ho⟩
  simp only at hW hK ho
  simp[h5,Ret,hW,hK]
  exact ho
theorem Zy6{F:Rat→Rat→Rat}{t:Nat}{p q:Rat}(hp:a[t]?=some p)(hq:b[t]?=some q):Zl2 F a b (t+1)=Zl2 F a b t++[F p q]:=by
 simp[Zl2,List.range_succ,hp,hq]
theorem Yg4{v:V}{j k:Nat}(hu:Tx h N u a)(hv:Tx h N v b)(hab:a.length≤b.length)(ha:∀q∈a,Qb j q)(hb:∀q∈b,Qb k q)(hj:j≤400000)(hk:k≤400000)(hl:a.length<100000):Fn A.C 112 [u,v] h N (fun x h' n'=>Own 1 36 N h' n' x ((tx (Zl2 (fun x y=>x+y) a b a.length)).map fun y=>[y])):=by
 intro w
 have l1:=hu.len
 have l2:=hv.len
 rw[Zaa,A.k112 (by simp)]
 simp[A.b112]
 refine Zaj [(5,24)] (fun e r st=>e=.exit 0∧Zac N st.w=[]∧Keeps h N st.h st.n∧∃x,r.get 5=some x∧Own 1 36 N st.h st.n x ((tx (Zl2 (fun x y=>x+y) a b a.length)).map fun y=>[y])) (fun i r st=>Zac N st.w=[]∧Keeps h N st.h st.n∧∃t x,t+i=a.length∧r.get 6=some (.int .i64 t)∧r.get 5=some x∧Own 1 36 N st.h st.n x ((tx (Zl2 (fun x y=>x+y) a b t)).map fun y=>[y])) (a.length) ?_ ?_ ?_
 ·exact⟨by simp,Keeps.refl,0,.nilslice,by omega,by simp,by simp,by simpa[tx,strs,Zl2]using Own.nil⟩
 ·rintro i r ⟨H,n1,W⟩ hr hf ⟨hW,hK,t,x,ht,h6,h5,ho⟩
  simp only at hW hK ho
  rw[Zah]
  cases i with
  |zero=>
   obtain rfl:t=a.length:=by omega
   simp[A.lb112_0,hr,hf,h6,h5,l1,hW,hK]
   exact ho
  |succ i=>
   have hlt:t<a.length:=by omega
   have hlt':(t:Int)<((a.length:Nat):Int):=by omega
   obtain⟨p,hp⟩:=Zag hlt
   have hpb:=ha p (Yrv hp)
   have hltb:t<b.length:=by omega
   have hltb':(t:Int)<(b.length:Int):=by omega
   obtain⟨q,hq⟩:=Zag hltb
   have hqb:=hb q (Yrv hq)
   obtain⟨i',o,cc,e,rw,q1,q2,q3,q4⟩:=(hu.keep hK).at (Zjd hp)
   obtain⟨i2,o2,cc2,e2,rw2,p1,p2,p3,p4⟩:=(hv.keep hK).at (Zjd hq)
   simp[A.lb112_0,hr,h6,h5,l1,hlt',l2,hltb',q1,q2,q3,q4,p1,p2,p3,p4]
   refine Zab (Zus hpb hqb hj hk) ?_
   rintro _ H2 n2 k2 rfl
   have le2:=k2.le
   have nle:=hK.le
   obtain⟨v',h',w',f1,f2,f3,_,f5⟩:=Zbj (x:=[.str (Za1 (p+q))]) (u:=.slice n2 0 1 (some 1) 1) (bytes:=16) (w:=[]) ((ho.keep k2).keep (Keeps.refl.new (.cells [.str (Za1 (p+q))] 36 true))) (by omega) (by decide) rfl (by simp[Za2,St.row,slc]) (by simp[Zh9,Zfv];omega)
   have e7:((tx (Zl2 (fun x y=>x+y) a b t)).map fun y=>[y])++[[.str (Za1 (p+q))]]=(tx (Zl2 (fun x y=>x+y) a b (t+1))).map fun y=>[y]:=by rw[Zy6 hp hq];simp[tx,strs]
   rw[e7]at f5
   have ow:Zac N w'=[]:=Ye3 f2 (by omega) rfl
   simp(disch:=first|(simp;done)|omega|rfl) [-Zac,hf,h6,splice,f1]
   exact⟨i,by omega,Yjs ow hW,((hK.trans k2).trans (Keeps.refl.new (.cells [.str (Za1 (p+q))] 36 true))).then f3,t+1,by omega,by simp,f5⟩
 ·rintro _ r ⟨H,n1,W⟩ hr ⟨rfl,hW,hK,x,h5,ho⟩
  simp only at hW hK ho
  simp[h5,Ret,hW,hK]
  exact ho
theorem Ymj:Za1 (-1)=[45,49]:=by decide+kernel
theorem Yjw{a b:List Rat}{n:Nat}:Zl2 (fun x y=>x+y) a (b.map fun q=>q* -1) n=Zl2 (fun x y=>x-y) a b n:=by
 unfold Zl2
 apply Yvd
 intro i _
 rw[Ysd]
 cases hb:b[i]? with
 |none=>simp only[Option.map_none,Option.getD_none];rw[Rat.sub_eq_add_neg,Rat.neg_zero]
 |some q=>simp only[Yt8,Yub];rw[Rat.sub_eq_add_neg,Rat.mul_neg,Rat.mul_one]
theorem Zz2{v y:V}{m:List (List Str)}{s x:List Str}(hm:TxM h N u (Zgs m))(hv:Tx h N v (Ze0 s))(hy:Tx h N y (Ze0 x))(hM:OkM m (hdL m))(hS:OkL s)(hX:OkL x)(ls:s.length=m.length)(lx:x.length=hdL m):Fn A.C 32 [u,v,y] h N (fun z h' n'=>TxT h' n' z (resQ m s x)):=by
 intro w
 have n6:=hM.n6
 have m6:=hM.le
 have em:(Zgs m).length=m.length:=by simp[Zgs]
 rw[Zaa,A.k32 (by simp)]
 simp[A.b32]
 refine Zab (Yab (n:=hdL m) (j:=100) (k:=100) hm hy hM.rat (by simp[Ze0,lx]) hX.qb (by decide) (by decide) (by omega) (by omega)) ?_
 rintro p H2 n2 k2 hp
 simp[←Ymj]
 have q1:=Yaw hM hX lx
 refine Zab (Zzx (j:=1207) (k:=1) (Yah hp).1 q1 (by refine⟨?_,?_⟩<;>decide) (by decide) (by decide) (by simp;omega)) ?_
 rintro q H3 n3 k3 hq
 simp[]
 refine Zab (Yg4 (j:=100) (k:=1208) ((hv.keep k2).keep k3) (Yah hq).1 (by simp[Ze0];omega) hS.qb (fun z hz=>?_) (by decide) (by decide) (by simp[Ze0];omega)) ?_
 ·obtain⟨a,ha,rfl⟩:=Ysv.1 hz
  exact(q1 a ha).mul (k:=1) (by refine⟨?_,?_⟩<;>decide)
 rintro z H4 n4 k4 hz
 rw[Yjw]at hz
 simp[Ret]
 exact⟨(k2.trans k3).trans k4,Yah hz⟩
def A.lb33_0:Zae:=.seq (sr [mv 16 11,mv 17 9,ln 18 17,bi 19 .lss 16 18]
 (cd 19
 (.skip)
 (.exit 0)))
 (.seq (.block 1 (.regD [mv 22 10,mv 23 1,mv 24 11,ia 25 1 23 24,ld 26 25,mv 27 9,mv 28 11,ia 29 1 27 28,ld 30 29,mv 31 9,mv 32 11,ia 33 1 31 32,ld 34 33,c2 35 96 30 34,c2 36 96 26 35,c2 37 95 22 36,mv 10 37] [0,0,0,6,14,0,0,96,224,0,0,1536,3584,8160,16382,32767,65535]))
 (.reg [mv 20 11,bc 21 .add 20 1,mv 11 21]))
def A.b33:Zae:=sr [⟨(some 8),.mov (.const (.str [])),none⟩]
 (sr [mv 12 0,mv 13 2,mv 14 3,⟨(some 15),.call (.const (.func 32 [] [])) [(.tmp 12),(.tmp 13),(.tmp 14)],none⟩,mv 9 15]
 (sr [⟨(some 10),.mov (.const (.str [48])),none⟩]
 (.seq (sr [mc 11 0]
 (.block 0 (.loop A.lb33_0)))
 (sr [mv 38 10,mv 8 38]
 (.ret)))))
theorem A.c33:A.F 33=some ⟨39,[.tmp 8],A.b33⟩:=by kernel_rfl
def A.k33:=@A.kk 33 _ _ _ A.c33 rfl
theorem Yij{a b:List Rat}{n j:Nat}(h:j<n):(wtN a b n)[j]?=some (a[j]?.getD 0*b[j]?.getD 0):=by
 simp[wtN,h]
theorem Yc0{r w:List Rat}{k n:Nat}(hk:k<n):Znd (wtN r w n) r (k+1)=Znd (wtN r w n) r k+w[k]?.getD 0*(r[k]?.getD 0*r[k]?.getD 0):=by
 show Znd (wtN r w n) r k+(wtN r w n)[k]?.getD 0*r[k]?.getD 0=_
 rw[Yij hk]
 simp only[Yub]
 rw[Rat.mul_comm (r[k]?.getD 0) (w[k]?.getD 0),Rat.mul_assoc]
theorem Yeo{h:T O}{N:Nat}{u v y z:V}{m:List (List Str)}{ws s x:List Str}(hm:TxM h N u (Zgs m))(hw:Tx h N v (Ze0 ws))(hv:Tx h N y (Ze0 s))(hy:Tx h N z (Ze0 x))(hM:OkM m (hdL m))(hW:OkL ws)(hS:OkL s)(hX:OkL x)(lw:ws.length=m.length)(ls:s.length=m.length)(lx:x.length=hdL m):Fn A.C 33 [u,v,y,z] h N (fun t _ _=>t=.str (Za1 (Yc2 m ws s x))):=by
 intro w
 have n6:=hM.n6
 have m6:=hM.le
 rw[Zaa,A.k33 (by simp)]
 simp[A.b33]
 refine Zab (Zz2 hm hv hy hM hS hX ls lx) ?_
 rintro p H2 n2 k2 hp
 have rq:=Zmi hM hS hX lx
 have rl:(resQ m s x).length=s.length:=Zjn
 have l1:=hp.1.len
 have lw2:(Ze0 ws).length=(resQ m s x).length:=by rw[rl];simp[Ze0,lw,ls]
 have hw2:=hw.keep k2
 have l2:=hw2.len
 have hp1:=hp.1
 clear hp
 have ht0:V.str [48]=.str (Za1 (Znd (wtN (resQ m s x) (Ze0 ws) (resQ m s x).length) (resQ m s x) 0)):=by rw[show Znd _ _ 0=0 from rfl,Ydx]
 have hcq:Yc2 m ws s x=Znd (wtN (resQ m s x) (Ze0 ws) (resQ m s x).length) (resQ m s x) (resQ m s x).length:=by simp[Yc2,Zny,Zo8]
 rw[hcq]
 have dq:=fun k=>Znc (Zy8 (n:=(resQ m s x).length) rq hW.qb (by decide) (by decide)) rq (by decide) (by decide) k
 simp[ht0]
 generalize resQ m s x=R at*
 refine Zaj [(10,11),(16,37)] (fun e r st=>e=.exit 0∧Zac N st.w=[]∧Keeps H2 n2 st.h st.n∧r.get 10=some (.str (Za1 (Znd (wtN R (Ze0 ws) R.length) R R.length)))) (fun i r st=>Zac N st.w=[]∧Keeps H2 n2 st.h st.n∧∃t,t+i=R.length∧r.get 11=some (.int .i64 t)∧r.get 10=some (.str (Za1 (Znd (wtN R (Ze0 ws) R.length) R t)))) R.length ?_ ?_ ?_
 ·exact⟨by simp,Keeps.refl,0,by omega,by simp,by simp⟩
 ·rintro i r ⟨H,n1,W⟩ hr hf ⟨hW0,hK,t,ht,h11,h10⟩
  simp only at hW0 hK
  rw[Zah]
  cases i with
  |zero=>
   obtain rfl:t=R.length:=by omega
   simp[A.lb33_0,hr,hf,h11,h10,l1,hW0,hK]
  |succ i=>
   have hlt:t<R.length:=by omega
   have hlt':(t:Int)<(R.length:Int):=by omega
   have hltb:t<(Ze0 ws).length:=by omega
   have hltb':(t:Int)<((Ze0 ws).length:Int):=by omega
   obtain⟨a,ha⟩:=Zag hlt
   obtain⟨b,hb⟩:=Zag hltb
   have qa:=rq a (Yrv ha)
   have qb:=hW.qb b (Yrv hb)
   obtain⟨i',o,cc,e,rw,q1,q2,q3,q4⟩:=(hp1.keep hK).at (Zjd ha)
   obtain⟨i2,o2,cc2,e2,rw2,p1,p2,p3,p4⟩:=(hw2.keep hK).at (Zjd hb)
   have hst:=Yc0 (r:=R) (w:=Ze0 ws) hlt
   rw[ha,hb]at hst
   simp only[Yub]at hst
   simp[A.lb33_0,hr,h11,h10,l1,l2,hlt',hltb',q1,q2,q3,q4,p1,p2,p3,p4]
   refine Zab (Zpt qa qa (by decide) (by decide)) ?_
   rintro _ H3 n3 k3 rfl
   simp[]
   refine Zab (Zpt qb (qa.mul qa) (by decide) (by decide)) ?_
   rintro _ H4 n4 k4 rfl
   simp[]
   refine Zab (Zus (dq t) (qb.mul (qa.mul qa)) ?_ (by decide)) ?_
   ·have:t*(1308+100+1308+1)≤6*(1308+100+1308+1):=Yr7 _ (by omega)
    omega
   rintro _ H5 n5 k5 rfl
   rw[←hst]
   have le3:=k3.le
   have le4:=k4.le
   have le5:=k5.le
   simp(disch:=first|(simp;done)|omega|rfl) [-Zac,hf,h11]
   exact⟨i,by omega,by simpa using hW0,((hK.trans k3).trans k4).trans k5,t+1,by omega,by simp,rfl⟩
 ·rintro _ r ⟨H,n1,W⟩ hr ⟨rfl,hW0,hK,h10⟩
  simp only at hW0 hK
  simp[h10,Ret,hW0]
  exact k2.trans hK
def A.b27:Zae:=sr [mc 2 0]
 (sr [mv 3 0,⟨(some 4),.call (.const (.func 14 [] [])) [(.tmp 3),(.const (.int .i64 64)),(.const (.int .i64 16))],none⟩,mv 2 4]
 (.ret))
theorem A.c27:A.F 27=some ⟨5,[.tmp 2],A.b27⟩:=by kernel_rfl
def A.k27:=@A.kk 27 _ _ _ A.c27 rfl
def A.lb31_0:Zae:=.seq (sr [mv 6 5,mv 7 1,ln 8 7,bi 9 .lss 6 8]
 (cd 9
 (.skip)
 (.exit 0)))
 (.seq (.block 1 (.seq (sr [mv 12 1,mv 13 5,ia 14 1 12 13,ld 15 14,bc 16 .lss 15 0,mv 17 16,mh 18 1 17,mh 19 5 17,⟨(some 20),.iaddrSl 1 (.tmp 18) (.tmp 19),(some (17,false))⟩,⟨(some 21),.load none (.tmp 20),(some (17,false))⟩,mh 22 0 17,⟨(some 23),.len 1 (.tmp 22),(some (17,false))⟩,⟨(some 24),.bin .geq (.node []) false (.tmp 21) (.tmp 23),(some (17,false))⟩,pt 25 17 24]
 (cd 25
 (sr [mc 4 10]
 (.ret))
 (.skip)))
 (.seq (.regD [mv 26 5,bc 27 .gtr 26 0,mv 28 27,mg 29 1 28,mg 30 5 28,⟨(some 31),.iaddrSl 1 (.tmp 29) (.tmp 30),(some (28,true))⟩,⟨(some 32),.load none (.tmp 31),(some (28,true))⟩,mg 33 1 28,mg 34 5 28,⟨(some 35),.bin .sub (.node []) false (.tmp 34) (.const (.int .i64 1)),(some (28,true))⟩,⟨(some 36),.iaddrSl 1 (.tmp 33) (.tmp 35),(some (28,true))⟩,⟨(some 37),.load none (.tmp 36),(some (28,true))⟩,⟨(some 38),.bin .leq (.node []) false (.tmp 32) (.tmp 37),(some (28,true))⟩,pf 39 28 38] [0,1,3,7,7,31,63,7,7,263,903,1927,4095,8191])
 (cd 39
 (sr [mc 4 11]
 (.ret))
 (.skip)))))
 (.reg [mv 10 5,bc 11 .add 10 1,mv 5 11]))
def A.b31:Zae:=sr [mc 4 0]
 (.seq (sr [mc 5 0]
 (.block 0 (.loop A.lb31_0)))
 (.seq (sr [mv 40 1,ln 41 40,mv 42 0,ln 43 42,⟨(some 44),.bin .eql (.prim .int) false (.tmp 41) (.tmp 43),none⟩]
 (cd 44
 (sr [mc 4 12]
 (.ret))
 (.skip)))
 (sr [mc 4 0]
 (.ret))))
theorem A.c31:A.F 31=some ⟨45,[.tmp 4],A.b31⟩:=by kernel_rfl
def A.k31:=@A.kk 31 _ _ _ A.c31 rfl
def A.lb34_0:Zae:=.seq (sr [mv 8 7,mv 9 0,ln 10 9,bi 11 .lss 8 10]
 (cd 11
 (.skip)
 (.exit 0)))
 (.seq (.block 1 (.seq (sr [mv 14 6,mv 15 1,ln 16 15,bi 17 .lss 14 16,mv 18 17,mg 19 1 18,mg 20 6 18,⟨(some 21),.iaddrSl 1 (.tmp 19) (.tmp 20),(some (18,true))⟩,⟨(some 22),.load none (.tmp 21),(some (18,true))⟩,mg 23 7 18,⟨(some 24),.bin .eql (.prim .int) false (.tmp 22) (.tmp 23),(some (18,true))⟩,pf 25 18 24]
 (cd 25
 (sr [mv 26 6,bc 27 .add 26 1,mv 6 27]
 (.exit 1))
 (.skip)))
 (.reg [mv 28 5,mv 29 0,mv 30 7,ia 31 1 29 30,ld 32 31,⟨(some 33),.bslice 23 1 1 [.nilslice] [(0,1,(.tmp 32))],none⟩,⟨(some 34),.append 1 24 23 [.nilslice] (.tmp 28) (.tmp 33),none⟩,mv 5 34])))
 (.reg [mv 12 7,bc 13 .add 12 1,mv 7 13]))
def A.b34:Zae:=sr [mN 4]
 (sr [mN 5]
 (sr [mc 6 0]
 (.seq (sr [mc 7 0]
 (.block 0 (.loop A.lb34_0)))
 (sr [mv 35 5,mv 4 35]
 (.ret)))))
theorem A.c34:A.F 34=some ⟨36,[.tmp 4],A.b34⟩:=by kernel_rfl
def A.k34:=@A.kk 34 _ _ _ A.c34 rfl
theorem Yep{h:T O}{N:Nat}{v:V}{l:List (List Str)}(hs:MtS h N v l)(hl:l.length<100000)(hx:∀x∈l,x.length<100000∧∀s∈x,s.length≤100000):Fn A.C 27 [v] h N (fun u _ _=>u=.int .i64 (Zhh l 64 16)):=by
 intro w
 rw[Zaa,A.k27 (by simp)]
 simp[A.b27]
 refine Zab (Yli (a:=64) (b:=16) hs hl hx) ?_
 rintro _ H2 n2 k2 rfl
 simp[Ret]
 exact k2
theorem Ygv{h:T O}{N:Nat}{w:List Nat}{u v:V}{d:Nat}{l:List Int}(hu:Zlh u=some d)(hv:Sl h N v (dI l))(hl:l.length<100000):A.C.call (.func 31 [] []) [u,v] ⟨h,N,w⟩=some (.int .i64 (Znz l d),⟨h,N,w⟩):=by
 apply Call.eq
 have lg:=hv.len
 rw[Zas]at lg
 rw[Zaa,A.k31 (by simp)]
 simp[A.b31]
 refine Zaj [(4,39)] (fun e r st=>st=⟨h,N,[]⟩∧((e=.exit 0∧Zr4 l d=0)∨(e=.ret∧Zr4 l d≠0∧r.get 4=some (.int .i64 (Zr4 l d))))) (fun i r st=>st=⟨h,N,[]⟩∧∃k,k+i=l.length∧r.get 5=some (.int .i64 k)∧Zr4 l d=Zak (((List.range l.length).drop k).map (Zhd l d))) l.length ?_ ?_ ?_
 ·exact⟨rfl,0,by omega,by simp,by simp[Zr4]⟩
 ·rintro i r _ hr hf ⟨rfl,k,hk,h5,hz⟩
  rw[Zah]
  cases i with
  |zero=>
   obtain rfl:k=l.length:=by omega
   rw[Ysn (by simp),Ytn,Zak]at hz
   simp[A.lb31_0,hr,hf,h5,lg,hz]
  |succ i=>
   have hlt:k<l.length:=by omega
   have hk1:(k:Int)<(l.length:Int):=by omega
   obtain⟨z,hc⟩:=Zag hlt
   obtain⟨p,o,cc,e,rw,q1,q2,q3,q4⟩:=hv.at (Zba hc)
   rw[Zoj hlt,Yso,Zak]at hz
   have dz:l[k]?.getD 0=z:=by rw[hc];rfl
   by_cases cA:z<0
   ·have e1:Zhd l d k=10:=by unfold Zhd;rw[dz];simp[cA]
    rw[e1,Yrq (by decide)]at hz
    simp[A.lb31_0,hr,hf,h5,hk1,lg,q1,q3,q4,cA,hz]
   ·by_cases cB:(d:Int)≤z
    ·have e1:Zhd l d k=10:=by unfold Zhd;rw[dz];simp[cA,cB]
     rw[e1,Yrq (by decide)]at hz
     simp[A.lb31_0,hr,hf,h5,hk1,lg,hu,q1,q3,q4,cA,cB,hz]
    ·by_cases k0:k=0
     ·have kk0:¬0<k:=by omega
      have e1:Zhd l d k=0:=by unfold Zhd;rw[dz];simp[cA,cB,k0]
      rw[e1,Yru rfl]at hz
      simp(disch:=first|(simp;done)|omega|rfl) [A.lb31_0,hr,hf,h5,hk1,lg,hu,q1,q3,q4,cA,cB,kk0]
      exact⟨i,by omega,k+1,by omega,by simp,by simpa using hz⟩
     ·obtain⟨y,hy⟩:=Zag (l:=l) (k:=k-1) (by omega)
      have dy:l[k-1]?.getD 0=y:=by rw[hy];rfl
      obtain⟨p2,o2,cc2,ee2,rw2,t1,t2,t3,t4⟩:=hv.at (Zba hy)
      have kk0:0<k:=by omega
      have kw:Zar .i64 ((k:Int)-1)=((k-1:Nat):Int):=by rw[Zai (by omega) (by omega)];omega
      have kl:((k-1:Nat):Int)<(l.length:Int):=by omega
      have kl2:k-1<l.length:=by omega
      have kx:(1:Int)≤(k:Int):=by omega
      have ky:(k:Int)-1<(l.length:Int):=by omega
      have kz:((k:Int)-1).toNat=k-1:=by omega
      rw[q1]at t1
      simp only[Yro,Yrs]at t1
      obtain⟨rfl,rfl⟩:=t1
      rw[q3]at t3
      simp only[Yro,O.cells.injEq]at t3
      obtain⟨rfl,rfl,rfl⟩:=t3
      by_cases cD:z≤y
      ·have e1:Zhd l d k=11:=by unfold Zhd;rw[dz];simp[cA,cB,kk0,dy,cD]
       rw[e1,Yrq (by decide)]at hz
       simp[A.lb31_0,hr,hf,h5,hk1,lg,hu,q1,q2,q3,q4,cA,cB,kk0,kw,kl,t4,cD,hz]
      ·have e1:Zhd l d k=0:=by unfold Zhd;rw[dz];simp[cA,cB,dy,cD]
       rw[e1,Yru rfl]at hz
       simp(disch:=first|(simp;done)|omega|rfl) [A.lb31_0,hr,hf,h5,hk1,lg,hu,q1,q2,q3,q4,cA,cB,kk0,kw,t4,cD]
       exact⟨i,by omega,k+1,by omega,by simp,by simpa using hz⟩
 ·rintro e r _ hr ⟨rfl,⟨rfl,hz⟩|⟨rfl,hz,h4⟩⟩
  ·have ce:((l.length:Int)=(d:Int))=(l.length=d):=by apply propext;omega
   have e2:Znz l d=if l.length=d then 12 else 0:=by unfold Znz;rw[Yru hz]
   by_cases c1:l.length=d
   ·rw[Yru c1]at e2
    simp[hr,lg,hu,c1,e2]
   ·rw[Yrq c1]at e2
    simp[hr,lg,hu,ce,c1,e2]
  ·have e2:Znz l d=Zr4 l d:=by unfold Znz;rw[Yrq hz]
   simp[h4,e2]
end Go.Mx
