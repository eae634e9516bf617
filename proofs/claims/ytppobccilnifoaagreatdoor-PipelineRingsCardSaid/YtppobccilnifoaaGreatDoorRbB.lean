/-
  lensletref01: trim, signed, compareDigits, divDigit.
-/
import Derived.Test.YtppobccilnifoaaGreatDoorKaI
import Derived.Test.YtppobccilnifoaaGreatDoorMxSpec
set_option linter.all false
namespace Go.Mx
open Go Go.Proofs
set_option maxRecDepth 1000000
def A.lb199_0:MCode:=.seq (.seq (.reg [mv 3 0,ln 4 3,bc 5 .gtr 4 0,mv 6 5,⟨(some 7),.mov (.tmp 0),(some (6,true))⟩,⟨(some 8),.mov (.tmp 0),(some (6,true))⟩,⟨(some 9),.len 1 (.tmp 8),(some (6,true))⟩,⟨(some 10),.bin .sub (.node []) false (.tmp 9) (.const (.int .i64 1)),(some (6,true))⟩,⟨(some 11),.iaddrSl 1 (.tmp 7) (.tmp 10),(some (6,true))⟩,⟨(some 12),.load none (.tmp 11),(some (6,true))⟩,⟨(some 13),.bin .eql (.prim .int) true (.tmp 12) (.const (.int .i64 0)),(some (6,true))⟩,⟨(some 14),.pick (.tmp 6) (.tmp 13) (.const (.bool false)),none⟩])
 (.cond (.tmp 14)
 (.skip)
 (.exit 0)))
 (.block 1 (.reg [mv 15 0,mv 16 0,ln 17 16,bc 18 .sub 17 1,⟨(some 19),.sliceSl 1 (.tmp 15) none (some (.tmp 18)) none,none⟩,mv 0 19]))
def A.b199:MCode:=.seq (.reg [⟨(some 2),.mov (.const .nilslice),none⟩])
 (.seq (.block 0 (.loop A.lb199_0))
 (.seq (.reg [mv 20 0,mv 2 20])
 (.ret)))
theorem A.c199:cFunc Tryz.prog 199=some ⟨21,[.tmp 2],A.b199⟩:=by kernel_rfl
def A.k199{K Q f c args st}:=@A.kk 199 _ _ _ A.c199 rfl K Q f c args st
def A.b196:MCode:=.seq (.reg [⟨(some 4),.alloc [(.bool false),.nilslice] 203,none⟩])
 (.seq (.reg [mv 5 1,⟨(some 6),.call (.const (.func 199 [] [])) [(.tmp 5)],none⟩,mv 1 6])
 (.seq (.reg [mv 7 0,mv 8 7,⟨(some 9),.mov (.tmp 1),(some (8,true))⟩,⟨(some 10),.len 1 (.tmp 9),(some (8,true))⟩,⟨(some 11),.bin .gtr (.node []) false (.tmp 10) (.const (.int .i64 0)),(some (8,true))⟩,⟨(some 12),.pick (.tmp 8) (.tmp 11) (.const (.bool false)),none⟩,mv 13 1,⟨(some 14),.build [(.bool false),.nilslice] [(0,1,(.tmp 12)),(1,1,(.tmp 13))],none⟩,⟨none,.store 2 (.tmp 4) (.tmp 14),none⟩])
 (.ret)))
theorem A.c196:cFunc Tryz.prog 196=some ⟨15,[.cell 4 (some 2)],A.b196⟩:=by kernel_rfl
def A.k196{K Q f c args st}:=@A.kk 196 _ _ _ A.c196 rfl K Q f c args st
def A.lb197_0:MCode:=.seq (.seq (.reg [mv 19 5,bc 20 .geq 19 0])
 (.cond (.tmp 20)
 (.skip)
 (.exit 0)))
 (.seq (.block 1 (.seq (.seq (.regD [mv 23 0,mv 24 5,ia 25 1 23 24,ld 26 25,mv 27 1,mv 28 5,ia 29 1 27 28,ld 30 29,bi 31 .lss 26 30] [0,0,3,7,0,0,48,112,255])
 (.cond (.tmp 31)
 (.seq (.reg [⟨(some 4),.mov (.const (.int .i64 (-1))),none⟩])
 (.ret))
 (.skip)))
 (.seq (.regD [mv 32 0,mv 33 5,ia 34 1 32 33,ld 35 34,mv 36 1,mv 37 5,ia 38 1 36 37,ld 39 38,bi 40 .gtr 35 39] [0,0,3,7,0,0,48,112,255])
 (.cond (.tmp 40)
 (.seq (.reg [mc 4 1])
 (.ret))
 (.skip)))))
 (.reg [mv 21 5,bc 22 .sub 21 1,mv 5 22]))
def A.b197:MCode:=.seq (.reg [mc 4 0])
 (.seq (.seq (.reg [mv 6 0,ln 7 6,mv 8 1,ln 9 8,⟨(some 10),.bin .neq (.prim .int) false (.tmp 7) (.tmp 9),none⟩])
 (.cond (.tmp 10)
 (.seq (.seq (.reg [mv 11 0,ln 12 11,mv 13 1,ln 14 13,bi 15 .lss 12 14])
 (.cond (.tmp 15)
 (.seq (.reg [⟨(some 4),.mov (.const (.int .i64 (-1))),none⟩])
 (.ret))
 (.skip)))
 (.seq (.reg [mc 4 1])
 (.ret)))
 (.skip)))
 (.seq (.seq (.reg [mv 16 0,ln 17 16,bc 18 .sub 17 1,mv 5 18])
 (.block 0 (.loop A.lb197_0)))
 (.seq (.reg [mc 4 0])
 (.ret))))
theorem A.c197:cFunc Tryz.prog 197=some ⟨41,[.tmp 4],A.b197⟩:=by kernel_rfl
def A.k197{K Q f c args st}:=@A.kk 197 _ _ _ A.c197 rfl K Q f c args st
def A.lb198_0:MCode:=.seq (.seq (.reg [mv 16 8,bc 17 .geq 16 0])
 (.cond (.tmp 17)
 (.skip)
 (.exit 0)))
 (.seq (.block 1 (.seq (.reg [mv 20 7,bc 21 .mul 20 1000000000,mv 22 0,mv 23 8,ia 24 1 22 23,ld 25 24,bi 26 .add 21 25,mv 9 26])
 (.seq (.reg [mv 27 6,mv 28 8,mv 29 9,mv 30 1,bi 31 .quo 29 30,ia 32 1 27 28,so 32 31])
 (.reg [mv 33 9,mv 34 1,bi 35 .rem 33 34,mv 7 35]))))
 (.reg [mv 18 8,bc 19 .sub 18 1,mv 8 19]))
def A.b198:MCode:=.seq (.reg [⟨(some 4),.mov (.const .nilslice),none⟩,mc 5 0])
 (.seq (.reg [mv 10 0,ln 11 10,⟨(some 12),.mkslice 3 1 8 [(.int .i64 0)] (.tmp 11) (.tmp 11),none⟩,mv 6 12])
 (.seq (.reg [mc 7 0])
 (.seq (.seq (.reg [mv 13 0,ln 14 13,bc 15 .sub 14 1,mv 8 15])
 (.block 0 (.loop A.lb198_0)))
 (.seq (.reg [mv 36 6,⟨(some 37),.call (.const (.func 199 [] [])) [(.tmp 36)],none⟩,mv 38 7,mv 4 37,mv 5 38])
 (.ret)))))
theorem A.c198:cFunc Tryz.prog 198=some ⟨39,[.tmp 4,.tmp 5],A.b198⟩:=by kernel_rfl
def A.k198{K Q f c args st}:=@A.kk 198 _ _ _ A.c198 rfl K Q f c args st
theorem rtrim_fn{h:T O}{N:Nat}{v:V}{l:List Int}(hs:Sl h N v (dI l))(hl:l.length<1152921504606846976):Fn A.C 199 [v] h N (fun v' h' N'=>Sl h' N' v' (dI (trimI l))):=by
 intro w
 rw[call_run,A.k199 (by simp)]
 simp(disch:=first|(simp;done)|omega|rfl) [-getElem?_pos,A.b199]
 refine run_loopD [(0,0),(3,19)] (fun e r st=>e=.exit 0∧st=⟨h,N,[]⟩∧∃u,r.get 0=some u∧Sl h N u (dI (trimI l))) (fun m r st=>st=⟨h,N,[]⟩∧m≤l.length∧∃u,r.get 0=some u∧Sl h N u (dI (l.take m))∧trimI (l.take m)=trimI l) l.length ?_ ?_ ?_
 ·exact⟨rfl,Nat.le_refl _,v,rfl,by rw[List.take_length];exact hs,by rw[List.take_length]⟩
 ·rintro m r _ hr hf ⟨rfl,hm,u,h0,hu,ht⟩
  rw[code_run]
  have lu:=hu.len
  rw[dI_length,List.length_take,Nat.min_eq_left hm]at lu
  cases m with
  |zero=>
   simp(disch:=first|(simp;done)|omega|rfl) [-getElem?_pos,A.lb199_0,hr,hf,h0,lu]
   rw[←ht];exact hu
  |succ k=>
   obtain⟨d,hd⟩:=get_of_lt (l:=l) (k:=k) (by omega)
   have hd':(l.take (k+1))[k]?=some d:=by rw[List.getElem?_take,if_pos (by omega)];exact hd
   obtain⟨i,o,c,e,rw,q1,q2,q3,q4⟩:=hu.at (dI_get hd')
   have e1:l.take (k+1)=l.take k++[d]:=by rw[List.take_add_one,hd];rfl
   have k1:(0:Int)<(k:Int)+1:=by omega
   have k2:(k:Int)<(k:Int)+1:=by omega
   have k3:(k:Int)+1-1=(k:Int):=by omega
   by_cases hz:d=0
   ·subst hz
    rw[e1,trimI_zero]at ht
    obtain⟨v',x1,x2⟩:=sliceK_sl (w:=[]) hu (lo:=0) (hi:=k) (Nat.zero_le _) (by rw[dI_length,List.length_take];omega) none (some (.int .i64 k)) (.inr ⟨rfl,rfl⟩) (.inl rfl)
    have x3:((dI (l.take (k+1))).take k).drop 0=dI (l.take k):=by
     rw[List.drop_zero,dI,←List.map_take,List.take_take,Nat.min_eq_left (by omega)];rfl
    rw[x3]at x2
    simp(disch:=first|(simp;done)|omega|rfl) [-getElem?_pos,A.lb199_0,hr,hf,h0,lu,k1,k2,k3,q1,q3,q4,eqPrim,op_sliceSl_K,evOpt,x1]
    exact⟨k,by omega,by omega,x2,ht⟩
   ·rw[e1,trimI_last hz,←e1]at ht
    simp(disch:=first|(simp;done)|omega|rfl) [-getElem?_pos,A.lb199_0,hr,hf,h0,lu,k1,k2,k3,q1,q3,q4,eqPrim,hz]
    rw[←ht];exact hu
 ·rintro _ r _ hr ⟨rfl,rfl,u,h0,hu⟩
  simp(disch:=first|(simp;done)|omega|rfl) [-getElem?_pos,hr,h0,Ret]
  exact⟨Keeps.refl,hu⟩
def Rg(h:T O)(N:Nat)(v:V)(z:Int):Prop:=∃u,v=.agg [.bool (decide (z<0)),u]∧Dn h N u z.natAbs
theorem signed_fn{h:T O}{N:Nat}{v:V}{l:List Int}{b:Bool}{n:Nat}(hs:Sl h N v (dI l))(hd:Di l)(hn:vI l=n)(hl:l.length<1152921504606846976):Fn A.C 196 [.bool b,v] h N (fun v' h' N'=>Rg h' N' v' (if b=true then -(n:Int) else n)):=by
 intro w
 rw[call_run,A.k196 (by simp)]
 simp(disch:=first|(simp;done)|omega|rfl) [-getElem?_pos,A.b196]
 refine run_fn (rtrim_fn (hs.keep (Keeps.refl.new _)) hl) ?_
 rintro u h1 n1 k1 hu
 rw[trimI_eq hd hn]at hu
 have lu:=hu.len
 rw[dI_length]at lu
 have kle:=k1.le
 have hrow:=k1.get N (by omega)
 simp at hrow
 have huo:=hu.form.one
 have huc:=hu.form.cells
 unfold V.one at huo
 unfold V.cells at huc
 have k0:=(Keeps.refl (h:=h) (n:=N)).new (.cells [.bool false,.nilslice] 203 true)
 have kx:=fun o=>((k0.trans k1).set (i:=N) (o:=o) (Nat.le_refl N))
 have hu2:=fun c1 (hc:c1.length=2)=>hu.setInt (i:=N) (c1:=c1) (e1:=203) (w1:=true) hrow (by intro x hx k m;simp at hx;rcases hx with rfl|rfl<;>simp) hc
 cases b with
 |false=>
  simp(disch:=first|(simp;done)|omega|rfl) [-getElem?_pos,lu,splice,hrow,huo,huc,storeK2,partV,slc,Ret]
  refine⟨kx _,u,?_,?_⟩
  ·have:¬(n:Int)<0:=by omega
   simp
  ·exact hu2 _ rfl
 |true=>
  by_cases hz:n=0
  ·have hl0:(ds n).length=0:=by rw[hz,ds_zero];rfl
   simp(disch:=first|(simp;done)|omega|rfl) [-getElem?_pos,lu,hl0,splice,hrow,huo,huc,storeK2,partV,slc,Ret]
   refine⟨kx _,u,?_,?_⟩
   ·simp[hz]
   ·simpa[hz,Dn]using hu2 _ rfl
  ·have hl0:¬(ds n).length=0:=fun hc=>hz (ds_eq_nil.1 (List.eq_nil_of_length_eq_zero hc))
   have hl1:(0:Int)<((ds n).length:Int):=by omega
   have hl2:0<(ds n).length:=by omega
   have hl3:ds n≠[]:=fun hc=>hz (ds_eq_nil.1 hc)
   simp(disch:=first|(simp;done)|omega|rfl) [-getElem?_pos,lu,hl1,hl2,hl3,splice,hrow,huo,huc,storeK2,partV,slc,Ret]
   refine⟨kx _,u,?_,?_⟩
   ·have: -(n:Int)<0:=by omega
    simp[this];try omega
   ·simpa[Dn]using hu2 _ rfl
end Go.Mx
namespace Go.Mx
open Go Go.Proofs
set_option maxRecDepth 1000000
theorem ds_mono:∀{b a:Nat},a≤b→(ds a).length≤(ds b).length:=by
 intro b
 induction b using Nat.strongRecOn with
 |_ b ih=>
  intro a h
  by_cases h0:a=0
  ·rw[h0,ds_zero];simp
  ·rw[ds_pos h0,ds_pos (n:=b) (by omega)]
   have:=ih (b/1000000000) (Nat.div_lt_self (by omega) (by decide)) (a:=a/1000000000) (Nat.div_le_div_right h)
   simp only[List.length_cons];omega
theorem vI_at{A:List Int}{k:Nat}{x:Int}(hx:A[k]?=some x):vI A=vI (A.take k)+pI k*(x+1000000000*vI (A.drop (k+1))):=by
 have hk:=lt_of_get hx
 rw[vI_split A k (by omega),get_drop_cons hx,vI]
theorem cmp_at{A B:List Int}{k:Nat}{x y:Int}(hA:Di A)(hB:Di B)(hx:A[k]?=some x)(hy:B[k]?=some y)(he:A.drop (k+1)=B.drop (k+1))(hxy:x<y):vI A<vI B:=by
 have hk:=lt_of_get hx
 rw[vI_at hx,vI_at hy,he]
 have h1:=vI_lt (hA.take k)
 have h2:=vI_nn (hB.take k)
 rw[List.length_take,Nat.min_eq_left (by omega)]at h1
 have h3:pI k*(x+1000000000*vI (B.drop (k+1))+1)≤pI k*(y+1000000000*vI (B.drop (k+1))):=Int.mul_le_mul_of_nonneg_left (by omega) (Int.le_of_lt (pI_pos k))
 have h4:pI k*(x+1000000000*vI (B.drop (k+1))+1)=pI k*(x+1000000000*vI (B.drop (k+1)))+pI k:=by grind
 omega
def cmpN(a b:Nat):Int:=if a<b then -1 else if b<a then 1 else 0
theorem cmpD_eq{h:T O}{N:Nat}{u v:V}{a b:Nat}{w:List Nat}(hu:Dn h N u a)(hv:Dn h N v b)(hl:(ds a).length<1152921504606846976)(hl2:(ds b).length<1152921504606846976):A.C.call (.func 197 [] []) [u,v] ⟨h,N,w⟩=some (.int .i64 (cmpN a b),⟨h,N,w⟩):=by
 apply Call.eq
 have lu:=hu.len
 have lv:=hv.len
 rw[dI_length]at lu lv
 have va:=ds_val a
 have vb:=ds_val b
 have da:=ds_di a
 have db:=ds_di b
 rw[call_run,A.k197 (by simp)]
 unfold cmpN
 by_cases h1:(ds a).length=(ds b).length
 ·have h1':((ds a).length:Int)=((ds b).length:Int):=by omega
  simp(disch:=first|(simp;done)|omega|rfl) [-getElem?_pos,A.b197,lu,lv,eqPrim,h1]
  generalize hA:ds a=X at*
  generalize hB:ds b=Y at*
  refine run_loopD [(4,5),(19,40)] (fun e r st=>st=⟨h,N,[]⟩∧((e=.exit 0∧a=b)∨(e=.ret∧a<b∧r.get 4=some (.int .i64 (-1)))∨(e=.ret∧b<a∧r.get 4=some (.int .i64 1)))) (fun m r st=>st=⟨h,N,[]⟩∧m≤X.length∧r.get 5=some (.int .i64 ((m:Int)-1))∧X.drop m=Y.drop m) X.length ?_ ?_ ?_
  ·exact⟨rfl,Nat.le_refl _,by simp[h1],by rw[List.drop_length,h1,List.drop_length]⟩
  ·rintro m r _ hr hf ⟨rfl,hm,h5,he⟩
   rw[code_run]
   cases m with
   |zero=>
    have:a=b:=by
     simp at he;rw[he]at va;omega
    simp(disch:=first|(simp;done)|omega|rfl) [-getElem?_pos,A.lb197_0,hr,hf,h5,this]
   |succ k=>
    obtain⟨x,hx⟩:=get_of_lt (l:=X) (k:=k) (by omega)
    obtain⟨y,hy⟩:=get_of_lt (l:=Y) (k:=k) (by omega)
    obtain⟨b1,b2,b3,b4,b5,z1,z2,z3,z4⟩:=Sl.at (show Sl h N u (dI (ds a)) from hu) (by rw[hA];exact dI_get hx)
    obtain⟨c1,c2,c3,c4,c5,y1,y2,y3,y4⟩:=Sl.at (show Sl h N v (dI (ds b)) from hv) (by rw[hB];exact dI_get hy)
    have hq1:(((k+1:Nat):Int)-1)=(k:Int):=by omega
    rw[hq1]at h5
    have hk1:(k:Int)<(X.length:Int):=by omega
    have hk2:(k:Int)<(Y.length:Int):=by omega
    have hk3:(0:Int)≤(k:Int):=by omega
    have hk4:k<Y.length:=by omega
    by_cases hlt:x<y
    ·have:=cmp_at da db hx hy he hlt
     have hab:a<b:=by omega
     simp(disch:=first|(simp;done)|omega|rfl) [-getElem?_pos,A.lb197_0,hr,hf,h5,lu,lv,hk1,hk2,hk3,hk4,z1,z2,z3,z4,y1,y2,y3,y4,hlt,hab]
    ·by_cases hgt:y<x
     ·have:=cmp_at db da hy hx he.symm hgt
      have hab:b<a:=by omega
      have hab2:¬a<b:=by omega
      simp(disch:=first|(simp;done)|omega|rfl) [-getElem?_pos,A.lb197_0,hr,hf,h5,lu,lv,hk1,hk2,hk3,hk4,z1,z2,z3,z4,y1,y2,y3,y4,hlt,hgt,hab,hab2]
     ·have hxy:x=y:=by omega
      simp(disch:=first|(simp;done)|omega|rfl) [-getElem?_pos,A.lb197_0,hr,hf,h5,lu,lv,hk1,hk2,hk3,hk4,z1,z2,z3,z4,y1,y2,y3,y4,hlt,hgt]
      exact⟨k,by omega,by omega,rfl,by rw[get_drop_cons hx,get_drop_cons hy,he,hxy]⟩
  ·rintro e r _ hr ⟨rfl,⟨rfl,hz⟩|⟨rfl,hz,h4⟩|⟨rfl,hz,h4⟩⟩
   ·simp(disch:=first|(simp;done)|omega|rfl) [-getElem?_pos,hr,hz]
   ·simp(disch:=first|(simp;done)|omega|rfl) [-getElem?_pos,hr,h4,hz]
   ·have:¬a<b:=by omega
    simp(disch:=first|(simp;done)|omega|rfl) [-getElem?_pos,hr,h4,hz,this]
 ·have h1':¬((ds a).length:Int)=((ds b).length:Int):=by omega
  by_cases h2:(ds a).length<(ds b).length
  ·have hab:a<b:=by
    apply Nat.lt_of_not_le;intro hc;have:=ds_mono hc;omega
   simp(disch:=first|(simp;done)|omega|rfl) [-getElem?_pos,A.b197,lu,lv,eqPrim,h1,h2,hab]
  ·have hab:b<a:=by
    apply Nat.lt_of_not_le;intro hc;have:=ds_mono hc;omega
   have hab2:¬a<b:=by omega
   simp(disch:=first|(simp;done)|omega|rfl) [-getElem?_pos,A.b197,lu,lv,eqPrim,h1,h2,hab,hab2]
structure DdA (h:T O) (N:Nat) (l:List Int) (d:Int) (m:Nat) (r:T V) (st:St):Prop where
 w:oldIds N st.w=[]
 keep:Keeps h N st.h (N+1)
 n:st.n=N+1
 r8:r.get 8=some (.int .i64 ((m:Int)-1))
 hm:m≤l.length
 ex:∃out rest,st.h.get N=some (.cells (dI out) 3 true)∧out.length=l.length∧r.get 7=some (.int .i64 rest)∧0≤rest∧rest<d∧Di (out.drop m)∧vI (out.drop m)*d+rest=vI (l.drop m)
theorem divDigit_fn{h:T O}{N:Nat}{v:V}{l:List Int}{d:Int}(hs:Sl h N v (dI l))(hd:Di l)(hl:l.length<1099511627776)(h0:0<d)(h1:d<1000000000):Fn A.C 198 [v,.int .i64 d] h N (fun u h' n'=>∃q,u=.tup [q,.int .i64 ((vI l).toNat%d.toNat:Nat)]∧Dn h' n' q ((vI l).toNat/d.toNat)):=by
 intro w
 have lv:=hs.len
 rw[dI_length]at lv
 rw[call_run,A.k198 (by simp)]
 simp(disch:=first|(simp;done)|omega|rfl) [-getElem?_pos,A.b198,lv]
 refine run_loopD [(7,9),(16,35)] (fun e r st=>e=.exit 0∧DdA h N l d 0 r st) (DdA h N l d) l.length ?_ ?_ ?_
 ·refine⟨by simp,Keeps.refl.new _,rfl,by simp,Nat.le_refl _,List.replicate l.length 0,0,by simp[dI_zeros],by simp,by simp,by omega,h0,?_,?_⟩
  ·rw[List.drop_eq_nil_of_le (by simp)];exact Di.nil
  ·rw[List.drop_eq_nil_of_le (by simp),List.drop_length];simp[vI]
 ·rintro m r ⟨H,n1,W⟩ hr hf ⟨hW,hK,hn,h8,hm,out,rest,hrow,hol,h7,hr0,hrd,hdi,hv⟩
  simp only at hW hK hn hrow
  subst hn
  rw[code_run]
  cases m with
  |zero=>
   simp(disch:=first|(simp;done)|omega|rfl) [-getElem?_pos,A.lb198_0,hr,hf,h8]
   exact⟨hW,hK,rfl,by simpa using h8,hm,out,rest,hrow,hol,by simp[h7],hr0,hrd,hdi,hv⟩
  |succ k=>
   obtain⟨x,hx⟩:=get_of_lt (l:=l) (k:=k) (by omega)
   obtain⟨b1,b2,b3,b4,b5,z1,z2,z3,z4⟩:=hs.at (dI_get hx)
   have z3:=(hK.get _ z2).trans z3
   have hxd:=hd.get hx
   have hq1:(((k+1:Nat):Int)-1)=(k:Int):=by omega
   rw[hq1]at h8
   have hk1:(k:Int)<(l.length:Int):=by omega
   have hk2:k<l.length:=by omega
   have hk3:(0:Int)≤(k:Int):=by omega
   have w1:wrapF .i64 (rest*1000000000)=rest*1000000000:=wrapF_i64 (by omega) (by omega)
   have w2:wrapF .i64 (rest*1000000000+x)=rest*1000000000+x:=wrapF_i64 (by omega) (by omega)
   have s0:0≤rest*1000000000+x:=by omega
   have hd0:¬d=0:=by omega
   have t1:(rest*1000000000+x).tdiv d=(rest*1000000000+x)/d:=Int.tdiv_eq_ediv_of_nonneg s0
   have t2:(rest*1000000000+x).tmod d=(rest*1000000000+x)%d:=Int.tmod_eq_emod_of_nonneg s0
   have t3:=Int.mul_ediv_add_emod (rest*1000000000+x) d
   have t4:0≤(rest*1000000000+x)/d:=Int.ediv_nonneg s0 (by omega)
   have t5:(rest*1000000000+x)/d<1000000000:=by
    apply Int.ediv_lt_of_lt_mul h0
    omega
   have t6:=Int.emod_nonneg (rest*1000000000+x) hd0
   have t7:=Int.emod_lt_of_pos (rest*1000000000+x) h0
   have w3:wrapF .i64 ((rest*1000000000+x)/d)=(rest*1000000000+x)/d:=wrapF_i64 (by omega) (by omega)
   have w8:=dI_length out
   have w7:=dI_set (l:=out) (k:=k) (v:=(rest*1000000000+x)/d) (by omega)
   simp(disch:=first|(simp;done)|omega|rfl) [-getElem?_pos,A.lb198_0,hr,hf,h8,h7,hk1,hk2,hk3,lv,z1,z3,z4,w1,w2,w3,hd0,t1,t2,hrow,w7]
   have e1:(out.set k ((rest*1000000000+x)/d)).drop k=((rest*1000000000+x)/d)::out.drop (k+1):=by
    rw[get_drop_cons (d:=(rest*1000000000+x)/d) (by rw[List.getElem?_set_self (by omega)])]
    rw[List.drop_set_of_lt (by omega)]
   generalize (rest*1000000000+x)/d=q at*
   generalize (rest*1000000000+x)%d=r' at*
   refine⟨k,by omega,⟨by simp[oldIds,hW],hK.set (Nat.le_refl N),rfl,by simp,by omega,out.set k q,r',by simp,by simp[hol],by simp,t6,t7,?_,?_⟩⟩
   ·rw[e1];exact Di.app (Di.one t4 t5) hdi
   ·rw[e1,get_drop_cons hx,vI,vI,←hv]
    grind
 ·rintro _ r ⟨H,n1,W⟩ hr ⟨rfl,hW,hK,hn,h8,hm,out,rest,hrow,hol,h7,hr0,hrd,hdi,hv⟩
  simp only at hW hK hn hrow
  subst hn
  rw[List.drop_zero,List.drop_zero]at*
  have hs2:Sl H (N+1) (.slice N 0 l.length (some l.length) 1) (dI out):=Sl.row (by omega) hrow (by simp[hol]) (fun k hk=>by simp at hk;omega)
  simp(disch:=first|(simp;done)|omega|rfl) [-getElem?_pos,hr,h7]
  refine run_fn (rtrim_fn hs2 (by omega)) ?_
  rintro u h2 n2 k2 hu
  have hvo:=vI_nn hdi
  have hvl:=vI_nn hd
  have m1:(vI l).toNat/d.toNat=(vI out).toNat:=by
   have:(vI l)/d=vI out:=by
    rw[←hv,Int.mul_comm,Int.add_comm,Int.add_mul_ediv_left _ _ (by omega),Int.ediv_eq_zero_of_lt hr0 hrd];omega
   rw[←this]
   obtain⟨a,ha⟩:=Int.eq_ofNat_of_zero_le hvl
   obtain⟨b,hb⟩:=Int.eq_ofNat_of_zero_le (Int.le_of_lt h0)
   rw[ha,hb];rfl
  have m2:(((vI l).toNat%d.toNat:Nat):Int)=rest:=by
   have:(vI l)%d=rest:=by
    rw[←hv,Int.mul_comm,Int.add_comm,Int.add_mul_emod_self_left,Int.emod_eq_of_lt hr0 hrd]
   rw[←this]
   obtain⟨a,ha⟩:=Int.eq_ofNat_of_zero_le hvl
   obtain⟨b,hb⟩:=Int.eq_ofNat_of_zero_le (Int.le_of_lt h0)
   rw[ha,hb];rfl
  rw[trimI_ds hdi]at hu
  have m2':rest=max (vI l) 0%max d 0:=by rw[←m2];simp
  simp(disch:=first|(simp;done)|omega|rfl) [-getElem?_pos,hr,h7,Ret,hW]
  refine⟨hK.trans k2,u,⟨rfl,m2'⟩,?_⟩
  rw[m1]
  exact hu
end Go.Mx
namespace Go.Mx
open Go Go.Proofs
set_option maxRecDepth 1000000
def A.lb200_0:MCode:=.seq (.seq (.reg [mv 22 8,mv 23 1,ln 24 23,bi 25 .lss 22 24])
 (.cond (.tmp 25)
 (.skip)
 (.exit 2)))
 (.seq (.block 3 (.seq (.regD [mv 28 5,mv 29 6,mv 30 8,bi 31 .add 29 30,ia 32 1 28 31,ld 33 32,mv 34 0,mv 35 6,ia 36 1 34 35,ld 37 36,mv 38 1,mv 39 8,ia 40 1 38 39,ld 41 40,bi 42 .mul 37 41,bi 43 .add 33 42,mv 44 7,bi 45 .add 43 44,mv 9 45] [0,0,0,6,15,31,0,0,192,448,0,0,3072,7168,16320,32767,0,131071,262143])
 (.seq (.reg [mv 46 5,mv 47 6,mv 48 8,bi 49 .add 47 48,mv 50 9,bc 51 .rem 50 1000000000,ia 52 1 46 49,so 52 51])
 (.reg [mv 53 9,bc 54 .quo 53 1000000000,mv 7 54]))))
 (.reg [mv 26 8,bc 27 .add 26 1,mv 8 27]))
def A.lb200_1:MCode:=.seq (.seq (.reg [mv 16 6,mv 17 0,ln 18 17,bi 19 .lss 16 18])
 (.cond (.tmp 19)
 (.skip)
 (.exit 0)))
 (.seq (.block 1 (.seq (.reg [mc 7 0])
 (.seq (.seq (.reg [mc 8 0])
 (.block 2 (.loop A.lb200_0)))
 (.reg [mv 55 5,mv 56 6,mv 57 1,ln 58 57,bi 59 .add 56 58,mv 60 5,mv 61 6,mv 62 1,ln 63 62,bi 64 .add 61 63,ia 65 1 60 64,ld 66 65,mv 67 7,bi 68 .add 66 67,ia 69 1 55 59,so 69 68]))))
 (.reg [mv 20 6,bc 21 .add 20 1,mv 6 21]))
def A.b200:MCode:=.seq (.reg [⟨(some 4),.mov (.const .nilslice),none⟩])
 (.seq (.reg [mv 10 0,ln 11 10,mv 12 1,ln 13 12,bi 14 .add 11 13,⟨(some 15),.mkslice 3 1 8 [(.int .i64 0)] (.tmp 14) (.tmp 14),none⟩,mv 5 15])
 (.seq (.seq (.reg [mc 6 0])
 (.block 0 (.loop A.lb200_1)))
 (.seq (.reg [mv 70 5,⟨(some 71),.call (.const (.func 199 [] [])) [(.tmp 70)],none⟩,mv 4 71])
 (.ret))))
theorem A.c200:cFunc Tryz.prog 200=some ⟨72,[.tmp 4],A.b200⟩:=by kernel_rfl
def A.k200{K Q f c args st}:=@A.kk 200 _ _ _ A.c200 rfl K Q f c args st
structure MuB (h:T O) (N:Nat) (la lb:List Int) (i:Nat) (out0:List Int) (a:Int) (m:Nat) (r:T V) (st:St):Prop where
 w:oldIds N st.w=[]
 keep:Keeps h N st.h (N+1)
 n:st.n=N+1
 ex:∃k out c,k+m=lb.length∧r.get 8=some (.int .i64 k)∧st.h.get N=some (.cells (dI out) 3 true)∧out.length=la.length+lb.length∧r.get 7=some (.int .i64 c)∧0≤c∧c<1000000000∧Di out∧(∀t,i+lb.length≤t→t<out.length→out[t]?=some 0)∧vI out+pI (i+k)*c=vI out0+pI i*(a*vI (lb.take k))
structure MuA (h:T O) (N:Nat) (la lb:List Int) (m:Nat) (r:T V) (st:St):Prop where
 w:oldIds N st.w=[]
 keep:Keeps h N st.h (N+1)
 n:st.n=N+1
 ex:∃i out,i+m=la.length∧r.get 6=some (.int .i64 i)∧st.h.get N=some (.cells (dI out) 3 true)∧out.length=la.length+lb.length∧Di out∧(∀t,i+lb.length≤t→t<out.length→out[t]?=some 0)∧vI out=vI (la.take i)*vI lb
theorem rmul_fn{h:T O}{N:Nat}{u v:V}{la lb:List Int}{a b:Nat}(hu:Sl h N u (dI la))(hv:Sl h N v (dI lb))(da:Di la)(db:Di lb)(ea:vI la=a)(eb:vI lb=b)(hl:la.length+lb.length<1099511627776):Fn A.C 200 [u,v] h N (fun x h' n'=>Dn h' n' x (a*b)):=by
 intro w
 have lu:=hu.len
 have lv:=hv.len
 rw[dI_length]at lu lv
 rw[call_run,A.k200 (by simp)]
 have cs:((la.length:Int)+(lb.length:Int)).toNat=la.length+lb.length:=by omega
 simp(disch:=first|(simp;done)|omega|rfl) [-getElem?_pos,A.b200,lu,lv,cs]
 refine run_loopD [(6,9),(16,69)] (fun e r st=>e=.exit 0∧MuA h N la lb 0 r st) (MuA h N la lb) la.length ?_ ?_ ?_
 ·refine⟨by simp,Keeps.refl.new _,rfl,0,List.replicate (la.length+lb.length) 0,by omega,by simp,by simp[dI_zeros],by simp,Di.zeros _,fun t _ ht=>?_,by simp[vI_zeros,vI]⟩
  simp at ht
  simp[ht]
 ·rintro m r ⟨H,n1,W⟩ hr hf ⟨hW,hK,hn,i,out,hi,h6,hrow,hol,hdi,hz,hv0⟩
  simp only at hW hK hn hrow
  subst hn
  rw[code_run]
  cases m with
  |zero=>
   have:i=la.length:=by omega
   subst this
   simp(disch:=first|(simp;done)|omega|rfl) [-getElem?_pos,A.lb200_1,hr,hf,h6,lu]
   exact⟨hW,hK,rfl,la.length,out,by omega,by simp[h6],hrow,hol,hdi,hz,hv0⟩
  |succ m=>
   obtain⟨x,hx⟩:=get_of_lt (l:=la) (k:=i) (by omega)
   obtain⟨b1,b2,b3,b4,b5,z1,z2,z3,z4⟩:=hu.at (dI_get hx)
   have z3:=(hK.get _ z2).trans z3
   have hxd:=da.get hx
   have hi1:(i:Int)<(la.length:Int):=by omega
   have hi2:i<la.length:=by omega
   simp(disch:=first|(simp;done)|omega|rfl) [-getElem?_pos,A.lb200_1,hr,hf,h6,hi1,hi2,lu]
   refine run_loopD [(7,9),(22,54)] (fun e r st=>e=.exit 2∧MuB h N la lb i out x 0 r st) (MuB h N la lb i out x) lb.length ?_ ?_ ?_
   ·exact⟨hW,hK,rfl,0,out,0,by omega,by simp,hrow,hol,by simp,by omega,by omega,hdi,hz,by simp[vI]⟩
   ·rintro m2 r2 ⟨H2,n2,W2⟩ hr2 hf2 ⟨hW2,hK2,hn2,k,out2,c,hk,h8,hrow2,hol2,h7,c0,c1,hdi2,hz2,hv2⟩
    simp only at hW2 hK2 hn2 hrow2
    subst hn2
    rw[code_run]
    cases m2 with
    |zero=>
     have:k=lb.length:=by omega
     subst this
     simp(disch:=first|(simp;done)|omega|rfl) [-getElem?_pos,A.lb200_0,hr,hr2,hf2,h8,lv]
     exact⟨hW2,hK2,rfl,lb.length,out2,c,by omega,by simp[h8],hrow2,hol2,by simp[h7],c0,c1,hdi2,hz2,hv2⟩
    |succ m2=>
     obtain⟨y,hy⟩:=get_of_lt (l:=lb) (k:=k) (by omega)
     obtain⟨g1,g2,g3,g4,g5,y1,y2,y3,y4⟩:=hv.at (dI_get hy)
     have y3:=(hK2.get _ y2).trans y3
     have z3:=(hK2.get _ z2).trans ((hK.get _ z2).symm.trans z3)
     have hyd:=db.get hy
     obtain⟨o,ho⟩:=get_of_lt (l:=out2) (k:=i+k) (by omega)
     have hod:=hdi2.get ho
     have hk1:(k:Int)<(lb.length:Int):=by omega
     have hk2:k<lb.length:=by omega
     have p0:0≤x*y:=Int.mul_nonneg hxd.1 hyd.1
     have p1:x*y≤999999999*999999999:=Int.mul_le_mul (by omega) (by omega) hyd.1 (by omega)
     have q1:(i:Int)+(k:Int)<(la.length:Int)+(lb.length:Int):=by omega
     have q2:i+k<la.length+lb.length:=by omega
     have q3:(0:Int)≤(i:Int)+(k:Int):=by omega
     have t1:(o+x*y+c).tmod 1000000000=(o+x*y+c)%1000000000:=Int.tmod_eq_emod_of_nonneg (by omega)
     have t2:(o+x*y+c).tdiv 1000000000=(o+x*y+c)/1000000000:=Int.tdiv_eq_ediv_of_nonneg (by omega)
     have w8:=dI_length out2
     have w7:=dI_set (l:=out2) (k:=i+k) (v:=(o+x*y+c)%1000000000) (by omega)
     have e1:vI (out2.set (i+k) ((o+x*y+c)%1000000000))+pI (i+(k+1))*((o+x*y+c)/1000000000)=vI out+pI i*(x*vI (lb.take (k+1))):=by
      have hm:=Int.mul_ediv_add_emod (o+x*y+c) 1000000000
      rw[vI_set ho,vI_take_succ hy,show i+(k+1)=(i+k)+1 by omega,pI_succ]
      have hp:=pI_add i k
      generalize (o+x*y+c)/1000000000=Q at*
      generalize (o+x*y+c)%1000000000=R at*
      have:R=o+x*y+c-1000000000*Q:=by omega
      rw[this]
      have h3:vI out2=vI out+pI i*(x*vI (lb.take k))-pI (i+k)*c:=by omega
      rw[h3,hp]
      grind
     generalize hP:x*y=P at*
     have b1':wrapF .i64 P=P:=wrapF_i64 (by omega) (by omega)
     have b2':wrapF .i64 (o+P)=o+P:=wrapF_i64 (by omega) (by omega)
     have b3':wrapF .i64 (o+P+c)=o+P+c:=wrapF_i64 (by omega) (by omega)
     have b4':wrapF .i64 ((o+P+c)/1000000000)=(o+P+c)/1000000000:=wrapF_i64 (by omega) (by omega)
     have f1:b1<N+1:=by omega
     have f2:g1<N+1:=by omega
     have r0:=Int.emod_nonneg (o+P+c) (b:=1000000000) (by decide)
     have r1:=Int.emod_lt_of_pos (o+P+c) (b:=1000000000) (by decide)
     have d0:0≤(o+P+c)/1000000000:=Int.ediv_nonneg (by omega) (by decide)
     have d1:(o+P+c)/1000000000<1000000000:=Int.ediv_lt_of_lt_mul (by decide) (by omega)
     simp(disch:=first|(simp;done)|omega|rfl) [-getElem?_pos,A.lb200_0,hr,hr2,hf2,h6,h7,h8,lu,lv,hk1,hk2,hi1,hi2,q1,q2,q3,hrow2,dI_get ho,z1,z2,z3,z4,y1,y2,y3,y4,hP,b1',b2',b3',b4',t1,t2,w7,cs,f1,f2]
     refine⟨m2,by omega,⟨by simp[oldIds,hW2],hK2.set (Nat.le_refl N),rfl,k+1,_,_,by omega,by simp,by simp,by simp[hol2],by simp,d0,d1,hdi2.set r0 r1,fun t ht1 ht2=>?_,e1⟩⟩
     rw[List.getElem?_set_ne (by omega)]
     exact hz2 t ht1 (by simpa using ht2)
   ·rintro _ r2 ⟨H2,n2,W2⟩ hr2 ⟨rfl,hW2,hK2,hn2,k,out2,c,hk,h8,hrow2,hol2,h7,c0,c1,hdi2,hz2,hv2⟩
    simp only at hW2 hK2 hn2 hrow2
    subst hn2
    have:k=lb.length:=by omega
    subst this
    have ho:=hz2 (i+lb.length) (by omega) (by omega)
    have hfi:=hf.inner (D':=[(7,9),(22,54)]) rfl (by simp) hr2
    have q1:(i:Int)+(lb.length:Int)<(la.length:Int)+(lb.length:Int):=by omega
    have q2:i+lb.length<la.length+lb.length:=by omega
    have q3:(0:Int)≤(i:Int)+(lb.length:Int):=by omega
    have w8:=dI_length out2
    have w7:=dI_set (l:=out2) (k:=i+lb.length) (v:=c) (by omega)
    rw[List.take_length]at hv2
    have e1:vI (out2.set (i+lb.length) c)=vI (la.take (i+1))*vI lb:=by
     rw[vI_set ho,vI_take_succ hx]
     have:vI out2+pI (i+lb.length)*(c-0)=vI out+pI i*(x*vI lb):=by rw[Int.sub_zero];exact hv2
     rw[this,hv0]
     grind
    simp(disch:=first|(simp;done)|omega|rfl) [-getElem?_pos,hr,hr2,h6,h7,lv,hrow2,dI_get ho,q1,q2,q3,w7,hfi,cs]
    refine⟨m,by omega,⟨by simp[oldIds,hW2],hK2.set (Nat.le_refl N),rfl,i+1,_,by omega,by simp,by simp,by simp[hol2],hdi2.set c0 c1,fun t ht1 ht2=>?_,e1⟩⟩
    rw[List.getElem?_set_ne (by omega)]
    exact hz2 t (by omega) (by simpa using ht2)
 ·rintro _ r ⟨H,n1,W⟩ hr ⟨rfl,hW,hK,hn,i,out,hi,h6,hrow,hol,hdi,hz,hv0⟩
  simp only at hW hK hn hrow
  subst hn
  have:i=la.length:=by omega
  subst this
  rw[List.take_length,ea,eb]at hv0
  have hs2:Sl H (N+1) (.slice N 0 (la.length+lb.length) (some (la.length+lb.length)) 1) (dI out):=Sl.row (by omega) hrow (by simp[hol]) (fun k hk=>by simp at hk;omega)
  simp(disch:=first|(simp;done)|omega|rfl) [-getElem?_pos,hr]
  refine run_fn (rtrim_fn hs2 (by omega)) ?_
  rintro y h2 n2 k2 hy
  rw[trimI_eq hdi (n:=a*b) (by rw[hv0];simp)]at hy
  simp(disch:=first|(simp;done)|omega|rfl) [-getElem?_pos,hr,Ret,hW]
  exact⟨hK.trans k2,hy⟩
end Go.Mx
namespace Go.Mx
open Go
theorem g_init{P d1 d2 d3 v1 v2 U' V' t r:Int}(hP:0<P)(hU0:0≤U')(hU:U'<P)(hV0:0≤V')(hV:V'<P)(h1:0≤d1)(h1':d1<1000000000)(h2:0≤d2)(h3:0≤d3)(w1:500000000≤v1)(w2:0≤v2)(w2':v2<1000000000)
  (hW:U'+P*(d1+1000000000*(d3*1000000000+d2))<1000000000*(V'+P*(v2+1000000000*v1))) (ht:d3*1000000000+d2=t*v1+r) (hr0:0≤r) (hr1:r<v1):
  0≤t∧t≤1000000001∧U'+P*(d1+1000000000*(d3*1000000000+d2))<(t+1)*(V'+P*(v2+1000000000*v1)):=by
 generalize hT:d3*1000000000+d2=T at*
 have hT0:0≤T:=by omega
 have t0:0≤t:=by
  apply Int.le_of_not_gt;intro hc
  have:t*v1≤(-1)*v1:=Int.mul_le_mul_of_nonneg_right (by omega) (by omega)
  omega
 have a1:T<1000000000*(v1+1):=by
  apply Int.lt_of_not_ge;intro hc
  have b1:P*(1000000000*(v1+1))≤P*T:=Int.mul_le_mul_of_nonneg_left hc (by omega)
  have b2:0≤P*d1:=Int.mul_nonneg (by omega) h1
  have b3:P*v2≤P*999999999:=Int.mul_le_mul_of_nonneg_left (by omega) (by omega)
  have b4:P*(d1+1000000000*T)=P*d1+1000000000*(P*T):=by grind
  have b5:P*(v2+1000000000*v1)=P*v2+1000000000*(P*v1):=by grind
  have b6:P*(1000000000*(v1+1))=1000000000*(P*v1)+1000000000*P:=by grind
  omega
 have a2:t≤1000000001:=by
  apply Int.le_of_not_gt;intro hc
  have b1:1000000002*v1≤t*v1:=Int.mul_le_mul_of_nonneg_right (by omega) (by omega)
  omega
 refine⟨t0,a2,?_⟩
 have c1:(t+1)*v1=t*v1+v1:=by grind
 have b1:P*(T+1)≤P*((t+1)*v1):=Int.mul_le_mul_of_nonneg_left (by omega) (by omega)
 have b2:P*d1≤P*999999999:=Int.mul_le_mul_of_nonneg_left (by omega) (by omega)
 have b3:0≤(t+1)*V':=Int.mul_nonneg (by omega) hV0
 have b4:0≤(t+1)*(P*v2):=Int.mul_nonneg (by omega) (Int.mul_nonneg (by omega) w2)
 have b5:P*(d1+1000000000*T)=P*d1+1000000000*(P*T):=by grind
 have b6:(t+1)*(V'+P*(v2+1000000000*v1))=(t+1)*V'+(t+1)*(P*v2)+1000000000*(P*((t+1)*v1)):=by grind
 have b7:P*(T+1)=P*T+P:=by grind
 omega
end Go.Mx
