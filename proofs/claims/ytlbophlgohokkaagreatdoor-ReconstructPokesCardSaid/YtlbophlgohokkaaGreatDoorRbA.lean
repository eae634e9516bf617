/-
  lensletref01: slash, Digits, decimalForm, value.
-/
import Derived.Test.YtlbophlgohokkaaGreatDoorMxDec
set_option linter.all false
namespace Go.Mx
open Go Go.Proofs
variable {s:a_}
set_option maxRecDepth 1000000
def A.lH:aq:=.seq (sr [mv 4 3,mv 5 0,⟨(some 6),.len 0 (.tmp 5),none⟩,bi 7 .lss 4 6]
 (cd 7
 (.skip)
 (.exit 0)))
 (.seq (.block 1 (sr [mv 10 0,mv 11 3,⟨(some 12),.aQ (.tmp 10) (.tmp 11),none⟩,⟨(some 13),.bin .eql (.aI .int) true (.tmp 12) (.const (.int .u8 47)),none⟩]
 (cd 13
 (sr [mv 14 3,mv 2 14]
 (.ret))
 (.skip))))
 (.aM [mv 8 3,bc 9 .add 8 1,mv 3 9]))
def A.b158:aq:=sr [mc 2 0]
 (.seq (sr [mc 3 0]
 (.block 0 (.loop A.lH)))
 (sr [mv 15 0,⟨(some 16),.len 0 (.tmp 15),none⟩,mv 2 16]
 (.ret)))
theorem A.c158:A.F 158=some ⟨17,[.tmp 2],A.b158⟩:=by kernel_rfl
def A.k158:=@A.kk 158 _ _ _ A.c158 rfl
def A.i_:aq:=.seq (sr [mv 4 3,mv 5 0,⟨(some 6),.len 0 (.tmp 5),none⟩,bi 7 .lss 4 6]
 (cd 7
 (.skip)
 (.exit 0)))
 (.seq (.block 1 (sr [mv 10 0,mv 11 3,⟨(some 12),.aQ (.tmp 10) (.tmp 11),none⟩,⟨(some 13),.bin .lss (.node []) false (.tmp 12) (.const (.int .u8 48)),none⟩,mv 14 13,mh 15 0 14,mh 16 3 14,⟨(some 17),.aQ (.tmp 15) (.tmp 16),(some (14,false))⟩,⟨(some 18),.bin .gtr (.node []) false (.tmp 17) (.const (.int .u8 57)),(some (14,false))⟩,pt 19 14 18]
 (cd 19
 (sr [⟨(some 2),.aY (.const (.bool false)),none⟩]
 (.ret))
 (.skip))))
 (.aM [mv 8 3,bc 9 .add 8 1,mv 3 9]))
def A.b225:aq:=sr [⟨(some 2),.aY (.const (.bool false)),none⟩]
 (.seq (sr [mc 3 0]
 (.block 0 (.loop A.i_)))
 (sr [⟨(some 2),.aY (.const (.bool true)),none⟩]
 (.ret)))
theorem A.c225:A.F 225=some ⟨20,[.tmp 2],A.b225⟩:=by kernel_rfl
def A.k225:=@A.kk 225 _ _ _ A.c225 rfl
def A.b159:aq:=sr [⟨(some 2),.aY (.const (.bool false)),none⟩]
 (.seq (sr [mv 3 0,⟨(some 4),.len 0 (.tmp 3),none⟩,ei 5 4 0,mv 6 5,mh 7 0 6,⟨(some 8),.len 0 (.tmp 7),(some (6,false))⟩,⟨(some 9),.bin .gtr (.node []) false (.tmp 8) (.const (.int .i64 1)),(some (6,false))⟩,mh 10 9 6,mg 11 0 10,⟨(some 12),.aQ (.tmp 11) (.const (.int .i64 0)),(some (10,true))⟩,⟨(some 13),.bin .eql (.aI .int) true (.tmp 12) (.const (.int .u8 48)),(some (10,true))⟩,⟨(some 14),.pick (.tmp 10) (.tmp 13) (.const (.bool false)),(some (6,false))⟩,pt 15 6 14]
 (cd 15
 (sr [⟨(some 2),.aY (.const (.bool false)),none⟩]
 (.ret))
 (.skip)))
 (sr [mv 16 0,c1 17 225 16,mv 2 17]
 (.ret)))
theorem A.c159:A.F 159=some ⟨18,[.tmp 2],A.b159⟩:=by kernel_rfl
def A.k159:=@A.kk 159 _ _ _ A.c159 rfl
def A.pB:aq:=.seq (sr [mv 5 4,mv 6 0,⟨(some 7),.len 0 (.tmp 6),none⟩,bi 8 .lss 5 7]
 (cd 8
 (.skip)
 (.exit 0)))
 (.seq (.block 1 (.aM [mv 11 3,⟨(some 12),.bin .mul (.node []) false (.const (.int .i64 10)) (.tmp 11),none⟩,mv 13 0,mv 14 4,⟨(some 15),.aQ (.tmp 13) (.tmp 14),none⟩,⟨(some 16),.bb .i64 (.tmp 15),none⟩,bi 17 .add 12 16,bc 18 .sub 17 48,mv 3 18]))
 (.aM [mv 9 4,bc 10 .add 9 1,mv 4 10]))
def A.b229:aq:=sr [mc 2 0]
 (sr [mc 3 0]
 (.seq (sr [mc 4 0]
 (.block 0 (.loop A.pB)))
 (sr [mv 19 3,mv 2 19]
 (.ret))))
theorem A.c229:A.F 229=some ⟨20,[.tmp 2],A.b229⟩:=by kernel_rfl
def A.k229:=@A.kk 229 _ _ _ A.c229 rfl
theorem Ct{st:St}(hl:s.length<4611686018427387904):A.C.call (.func 158 [] []) [.str s] st=some (.int .i64 (ah s:Nat),st):=by
 apply Call.eq
 rw[aR,A.k158 (by simp)]
 simp(disch:=first|(simp;done)|omega|rfl) [-getElem?_pos,A.b158]
 refine bQ [(2,14)] (fun e r s1=>s1=⟨st.h,st.n,[]⟩/\((e=.exit 0/\ah s=s.length)\/(e=.ret/\r.get 2=some (.int .i64 (ah s:Nat))))) (fun m r s1=>s1=⟨st.h,st.n,[]⟩/\∃k,k+m=s.length/\r.get 3=some (.int .i64 k)/\ah s=k+ah (s.drop k)) s.length ?_ ?_ ?_
 ·exact⟨rfl,0,by omega,by simp,by simp⟩
 ·rintro m r _ hr hf ⟨rfl,k,hk,h3,hz⟩
  rw[bA]
  cases m with
  |zero=>
   have:k=s.length:=by omega
   subst this
   rw[og,ah]at hz
   simp(disch:=first|(simp;done)|omega|rfl) [-getElem?_pos,A.lH,hr,hf,h3]
   omega
  |succ m=>
   obtain⟨c,hc⟩:=bV (l:=s) (k:=k) (by omega)
   have cK:(k:Int)<(s.length:Int):=by omega
   have jJ:k<s.length:=by omega
   rw[ke hc,ah]at hz
   by_cases h47:cB c=47
   ·rw[aF (by unfold cB at h47;omega)]at hz
    simp(disch:=first|(simp;done)|omega|rfl) [-getElem?_pos,A.lH,hr,hf,h3,cK,hc,h47]
    rw[hz];simp
   ·rw[au (by unfold cB at h47;omega)]at hz
    simp(disch:=first|(simp;done)|omega|rfl) [-getElem?_pos,A.lH,hr,hf,h3,cK,hc,h47]
    exact⟨m,by omega,k+1,by omega,by simp,by omega⟩
 ·rintro e r _ hr ⟨rfl,⟨rfl,hz⟩|⟨rfl,h2⟩⟩
  ·simp(disch:=first|(simp;done)|omega|rfl) [-getElem?_pos,hr,hz]
  ·simp(disch:=first|(simp;done)|omega|rfl) [-getElem?_pos,h2]
theorem Yc2{st:St}(hl:s.length<4611686018427387904):A.C.call (.func 225 [] []) [.str s] st=some (.bool (ct s),st):=by
 apply Call.eq
 rw[aR,A.k225 (by simp)]
 simp(disch:=first|(simp;done)|omega|rfl) [-getElem?_pos,A.b225]
 refine bQ [(2,19)] (fun e r s1=>s1=⟨st.h,st.n,[]⟩/\((e=.exit 0/\ct s=true)\/(e=.ret/\ct s=false/\r.get 2=some (.bool false)))) (fun m r s1=>s1=⟨st.h,st.n,[]⟩/\∃k,k+m=s.length/\r.get 3=some (.int .i64 k)/\ct s=ct (s.drop k)) s.length ?_ ?_ ?_
 ·exact⟨rfl,0,by omega,by simp,by simp⟩
 ·rintro m r _ hr hf ⟨rfl,k,hk,h3,hz⟩
  rw[bA]
  cases m with
  |zero=>
   have:k=s.length:=by omega
   subst this
   rw[og]at hz
   have hz:ct s=true:=hz
   simp(disch:=first|(simp;done)|omega|rfl) [A.i_,hr,hf,h3,hz]
  |succ m=>
   obtain⟨c,hc⟩:=bV (l:=s) (k:=k) (by omega)
   have cK:(k:Int)<(s.length:Int):=by omega
   have jJ:k<s.length:=by omega
   have cX:ct s=(jh c&&ct (s.drop (k+1))):=by rw[hz,ke hc];rfl
   rw[Rr]at cX
   by_cases h1:cB c<48
   ·have:¬(48<=cB c/\cB c<=57):=by omega
    rw[decide_eq_false this,C1]at cX
    simp(disch:=first|(simp;done)|omega|rfl) [-getElem?_pos,A.i_,hr,hf,h3,cK,hc,h1,cX]
   ·by_cases h2:57<cB c
    ·have:¬(48<=cB c/\cB c<=57):=by omega
     rw[decide_eq_false this,C1]at cX
     simp(disch:=first|(simp;done)|omega|rfl) [-getElem?_pos,A.i_,hr,hf,h3,cK,hc,h1,h2,cX]
    ·have:(48<=cB c/\cB c<=57):=by omega
     rw[decide_eq_true this,Bool.true_and]at cX
     simp(disch:=first|(simp;done)|omega|rfl) [-getElem?_pos,A.i_,hr,hf,h3,cK,hc,h1,h2]
     exact⟨m,by omega,k+1,by omega,by simp,cX⟩
 ·rintro e r _ hr ⟨rfl,⟨rfl,hz⟩|⟨rfl,hz,h2⟩⟩
  ·simp(disch:=first|(simp;done)|omega|rfl) [-getElem?_pos,hz]
  ·simp(disch:=first|(simp;done)|omega|rfl) [-getElem?_pos,h2,hz]
theorem Kq{s:a_}{st:St}(hl:s.length<4611686018427387904):A.C.call (.func 159 [] []) [.str s] st=some (.bool (gS s),st):=by
 apply Call.eq
 rw[aR,A.k159 (by simp)]
 cases s with
 |nil=>simp[A.b159,gS]
 |cons c s=>
  have hd:gS (c::s)=(ct (c::s)&&(decide (cB c≠48)||decide (s=[]))):=by
   have:decide (c.toNat≠48)=decide (cB c≠48):=by unfold cB;rw[decide_eq_decide];omega
   simp only[gS,this];rfl
  have hdg:=fun st=>Yc2 (s:=c::s) (st:=st) hl
  by_cases h0:s=[]
  ·subst h0
   simp[A.b159,hd,hdg]
  ·have h1:0<s.length:=by
    cases s with
    |nil=>exact absurd rfl h0
    |cons=>simp
   have a1:¬((s.length:Int)+1=0):=by omega
   have a2:(1:Int)<(s.length:Int)+1:=by omega
   have a3:(0:Int)<(s.length:Int):=by omega
   by_cases h48:cB c=48
   ·simp[A.b159,hd,h0,a1,a2,h48]
   ·simp[A.b159,hd,hdg,h0,a1,a2,h48]
theorem Kr{st:St}(hd:ct s=true)(hl:s.length<=18):A.C.call (.func 229 [] []) [.str s] st=some (.int .i64 (aB s:Nat),st):=by
 apply Call.eq
 rw[aR,A.k229 (by simp)]
 simp[A.b229]
 refine bQ [(3,18)] (fun e r s1=>s1=⟨st.h,st.n,[]⟩/\e=.exit 0/\r.get 3=some (.int .i64 (aB s:Nat))) (fun m r s1=>s1=⟨st.h,st.n,[]⟩/\∃k,k+m=s.length/\r.get 4=some (.int .i64 k)/\r.get 3=some (.int .i64 (aB (s.take k):Nat))) s.length ?_ ?_ ?_
 ·exact⟨rfl,0,by omega,by simp,by simp[aB]⟩
 ·rintro m r _ hr hf ⟨rfl,k,hk,h4,h3⟩
  rw[bA]
  cases m with
  |zero=>
   have:k=s.length:=by omega
   subst this
   rw[vK]at h3
   simp[A.pB,hr,hf,h4,h3]
  |succ m=>
   obtain⟨c,hc⟩:=bV (l:=s) (k:=k) (by omega)
   have cK:(k:Int)<(s.length:Int):=by omega
   have jJ:k<s.length:=by omega
   have qH:=HW hd hc
   have hv:=Ru hc
   have US:=LS hd k (by omega)
   have oW:=LU (a:=k) (b:=17) (by omega)
   have b3:((aB (s.take (k+1)):Nat):Int)=10*(aB (s.take k):Nat)+cB c-48:=by
    rw[hv];unfold cB at*;omega
   have b4:((aB (s.take k):Nat):Int)<100000000000000000:=by
    have:(10:Nat)^17=100000000000000000:=by decide
    omega
   generalize hy:aB (s.take (k+1))=y at*
   generalize aB (s.take k)=x at*
   simp(disch:=first|(simp;done)|omega|rfl) [-getElem?_pos,A.pB,hr,hf,h4,h3,cK,hc]
   exact⟨m,by omega,k+1,by omega,by simp,by rw[hy,b3]⟩
 ·rintro e r _ hr ⟨rfl,rfl,h3⟩
  simp[h3]
def A.lI:aq:=.seq (sr [mv 3 0,ln 4 3,bc 5 .gtr 4 0,mv 6 5,mg 7 0 6,mg 8 0 6,⟨(some 9),.len 1 (.tmp 8),(some (6,true))⟩,⟨(some 10),.bin .sub (.node []) false (.tmp 9) (.const (.int .i64 1)),(some (6,true))⟩,⟨(some 11),.aN 1 (.tmp 7) (.tmp 10),(some (6,true))⟩,⟨(some 12),.load none (.tmp 11),(some (6,true))⟩,⟨(some 13),.bin .eql (.aI .int) true (.tmp 12) (.const (.int .i64 0)),(some (6,true))⟩,pf 14 6 13]
 (cd 14
 (.skip)
 (.exit 0)))
 (.block 1 (.aM [mv 15 0,mv 16 0,ln 17 16,bc 18 .sub 17 1,⟨(some 19),.dX 1 (.tmp 15) none (some (.tmp 18)) none,none⟩,mv 0 19]))
def A.b265:aq:=sr [mN 2]
 (.seq (.block 0 (.loop A.lI))
 (sr [mv 20 0,mv 2 20]
 (.ret)))
theorem A.c265:A.F 265=some ⟨21,[.tmp 2],A.b265⟩:=by kernel_rfl
def A.k265:=@A.kk 265 _ _ _ A.c265 rfl
def A.b234:aq:=sr [⟨(some 4),.alloc [(.bool false),.aa] 175,none⟩]
 (sr [mv 5 1,c1 6 265 5,mv 1 6]
 (sr [mv 7 0,mv 8 7,mg 9 1 8,⟨(some 10),.len 1 (.tmp 9),(some (8,true))⟩,⟨(some 11),.bin .gtr (.node []) false (.tmp 10) (.const (.int .i64 0)),(some (8,true))⟩,pf 12 8 11,mv 13 1,⟨(some 14),.build [(.bool false),.aa] [(0,1,(.tmp 12)),(1,1,(.tmp 13))],none⟩,⟨none,.store 2 (.tmp 4) (.tmp 14),none⟩]
 (.ret)))
theorem A.c234:A.F 234=some ⟨15,[.cell 4 (some 2)],A.b234⟩:=by kernel_rfl
def A.k234:=@A.kk 234 _ _ _ A.c234 rfl
def A.ja:aq:=.seq (sr [mv 19 5,bc 20 .geq 19 0]
 (cd 20
 (.skip)
 (.exit 0)))
 (.seq (.block 1 (.seq (.seq (.aV [mv 23 0,mv 24 5,ia 25 1 23 24,ld 26 25,mv 27 1,mv 28 5,ia 29 1 27 28,ld 30 29,bi 31 .lss 26 30] [0,0,3,7,0,0,48,112,255])
 (cd 31
 (sr [⟨(some 4),.aY (.const (.int .i64 (-1))),none⟩]
 (.ret))
 (.skip)))
 (.seq (.aV [mv 32 0,mv 33 5,ia 34 1 32 33,ld 35 34,mv 36 1,mv 37 5,ia 38 1 36 37,ld 39 38,bi 40 .gtr 35 39] [0,0,3,7,0,0,48,112,255])
 (cd 40
 (sr [mc 4 1]
 (.ret))
 (.skip)))))
 (.aM [mv 21 5,bc 22 .sub 21 1,mv 5 22]))
def A.b236:aq:=sr [mc 4 0]
 (.seq (sr [mv 6 0,ln 7 6,mv 8 1,ln 9 8,⟨(some 10),.bin .neq (.aI .int) false (.tmp 7) (.tmp 9),none⟩]
 (cd 10
 (.seq (sr [mv 11 0,ln 12 11,mv 13 1,ln 14 13,bi 15 .lss 12 14]
 (cd 15
 (sr [⟨(some 4),.aY (.const (.int .i64 (-1))),none⟩]
 (.ret))
 (.skip)))
 (sr [mc 4 1]
 (.ret)))
 (.skip)))
 (.seq (sr [mv 16 0,ln 17 16,bc 18 .sub 17 1,mv 5 18]
 (.block 0 (.loop A.ja)))
 (sr [mc 4 0]
 (.ret))))
theorem A.c236:A.F 236=some ⟨41,[.tmp 4],A.b236⟩:=by kernel_rfl
def A.k236:=@A.kk 236 _ _ _ A.c236 rfl
def A.pC:aq:=.seq (sr [mv 16 8,bc 17 .geq 16 0]
 (cd 17
 (.skip)
 (.exit 0)))
 (.seq (.block 1 (sr [mv 20 7,bc 21 .mul 20 1000000000,mv 22 0,mv 23 8,ia 24 1 22 23,ld 25 24,bi 26 .add 21 25,mv 9 26]
 (sr [mv 27 6,mv 28 8,mv 29 9,mv 30 1,bi 31 .quo 29 30,ia 32 1 27 28,so 32 31]
 (.aM [mv 33 9,mv 34 1,bi 35 .rem 33 34,mv 7 35]))))
 (.aM [mv 18 8,bc 19 .sub 18 1,mv 8 19]))
def A.b264:aq:=sr [mN 4,mc 5 0]
 (sr [mv 10 0,ln 11 10,⟨(some 12),.bO 3 1 8 [(.int .i64 0)] (.tmp 11) (.tmp 11),none⟩,mv 6 12]
 (sr [mc 7 0]
 (.seq (sr [mv 13 0,ln 14 13,bc 15 .sub 14 1,mv 8 15]
 (.block 0 (.loop A.pC)))
 (sr [mv 36 6,c1 37 265 36,mv 38 7,mv 4 37,mv 5 38]
 (.ret)))))
theorem A.c264:A.F 264=some ⟨39,[.tmp 4,.tmp 5],A.b264⟩:=by kernel_rfl
def A.k264:=@A.kk 264 _ _ _ A.c264 rfl
theorem Fa{h:T O}{N:Nat}{v:V}{l:List Int}(hs:Sl h N v (dI l))(hl:l.length<1152921504606846976):Fn A.C 265 [v] h N (fun v' h' N'=>Sl h' N' v' (dI (oM l))):=by
 intro w
 rw[aR,A.k265 (by simp)]
 simp[A.b265]
 refine bQ [(0,0),(3,19)] (fun e r st=>e=.exit 0/\st=⟨h,N,[]⟩/\∃u,r.get 0=some u/\Sl h N u (dI (oM l))) (fun m r st=>st=⟨h,N,[]⟩/\m<=l.length/\∃u,r.get 0=some u/\Sl h N u (dI (l.take m))/\oM (l.take m)=oM l) l.length ?_ ?_ ?_
 ·exact⟨rfl,aS _,v,rfl,by rw[vK];exact hs,by rw[vK]⟩
 ·rintro m r _ hr hf ⟨rfl,hm,u,h0,hu,ht⟩
  rw[bA]
  have lu:=hu.len
  rw[gk,fR,nA hm]at lu
  cases m with
  |zero=>
   simp[A.lI,hf,h0,lu]
   rw[<-ht];exact hu
  |succ k=>
   obtain⟨d,hd⟩:=bV (l:=l) (k:=k) (by omega)
   have hd':(l.take (k+1))[k]?=some d:=by rw[gV,aF (by omega)];exact hd
   obtain⟨i,o,c,e,rw,q1,q2,q3,q4⟩:=hu.at (fU hd')
   have e1:l.take (k+1)=l.take k++[d]:=by rw[pV,hd];rfl
   have k1:(0:Int)<(k:Int)+1:=by omega
   have k2:(k:Int)<(k:Int)+1:=by omega
   have k3:(k:Int)+1-1=(k:Int):=by omega
   by_cases hz:d=0
   ·subst hz
    rw[e1,Rn]at ht
    obtain⟨v',x1,x2⟩:=MY (w:=[]) hu (lo:=0) (hi:=k) (tQ _) (by rw[gk,fR];omega) none (some (.int .i64 k)) (.inr ⟨rfl,rfl⟩) (.inl rfl)
    have x3:((dI (l.take (k+1))).take k).drop 0=dI (l.take k):=by
     rw[yF,dI,<-List.map_take,List.take_take,nA (by omega)];rfl
    rw[x3]at x2
    simp(disch:=first|(simp;done)|omega|rfl) [A.lI,hf,h0,lu,k1,k3,q1,q3,q4,Jn,ay,x1]
    exact⟨k,by omega,by omega,x2,ht⟩
   ·rw[e1,WO hz,<-e1]at ht
    simp(disch:=first|(simp;done)|omega|rfl) [A.lI,hf,h0,lu,k1,k3,q1,q3,q4,hz]
    rw[<-ht];exact hu
 ·rintro _ r _ hr ⟨rfl,rfl,u,h0,hu⟩
  simp[h0,aA]
  exact⟨ab.refl,hu⟩
def Rg(h:T O)(N:Nat)(v:V)(z:Int):Prop:=∃u,v=.agg [.bool (decide (z<0)),u]/\Dn h N u z.natAbs
theorem uK{h:T O}{N:Nat}{v:V}{l:List Int}{b:Bool}{n:Nat}(hs:Sl h N v (dI l))(hd:Di l)(hn:vI l=n)(hl:l.length<1152921504606846976):Fn A.C 234 [.bool b,v] h N (fun v' h' N'=>Rg h' N' v' (if b=true then -(n:Int) else n)):=by
 intro w
 rw[aR,A.k234 (by simp)]
 simp[A.b234]
 refine ax (Fa (hs.ae (ab.refl.new _)) hl) ?_
 rintro u h1 n1 k1 hu
 rw[Dt hd hn]at hu
 have lu:=hu.len
 rw[gk]at lu
 have uA:=k1.le
 have ar:=k1.get N (by omega)
 simp at ar
 have zr:=hu.form.one
 have Of:=hu.form.cells
 unfold V.one at zr
 unfold V.cells at Of
 have k0:=(ab.refl (h:=h) (n:=N)).new (.cells [.bool false,.aa] 175 true)
 have kx:=fun o=>((k0.trans k1).set (i:=N) (o:=o) (aS N))
 have eS:=fun c1 (hc:c1.length=2)=>hu.setInt (i:=N) (c1:=c1) (e1:=175) (w1:=true) ar (by intro x hx k m;simp at hx;rcases hx with rfl|rfl<;>simp) hc
 cases b with
 |false=>
  simp[ag,ar,zr,Of,bW,aU,aJ,aA]
  refine⟨kx _,u,?_,?_⟩
  ·have:¬(n:Int)<0:=by omega
   simp
  ·exact eS _ rfl
 |true=>
  by_cases hz:n=0
  ·have mi:(ds n).length=0:=by rw[hz,qA];rfl
   simp[lu,mi,ag,ar,zr,Of,bW,aU,aJ,aA]
   refine⟨kx _,u,?_,?_⟩
   ·simp[hz]
   ·simpa[hz,Dn]using eS _ rfl
  ·have mi:¬(ds n).length=0:=fun hc=>hz (zX.1 (qa hc))
   have DK:(0:Int)<((ds n).length:Int):=by omega
   have kl:0<(ds n).length:=by omega
   have hl3:ds n≠[]:=fun hc=>hz (zX.1 hc)
   simp[lu,kl,ag,ar,zr,Of,bW,aU,aJ,aA]
   refine⟨kx _,u,?_,?_⟩
   ·have: -(n:Int)<0:=by omega
    simp;try omega
   ·simpa[Dn]using eS _ rfl
theorem rG:∀{b a:Nat},a<=b->(ds a).length<=(ds b).length:=by
 intro b
 induction b using Nat.strongRecOn with
 |_ b ih=>
  intro a h
  by_cases h0:a=0
  ·rw[h0,qA];simp
  ·rw[xg h0,xg (n:=b) (by omega)]
   have:=ih (b/1000000000) (zJ (by omega) (by decide)) (a:=a/1000000000) (Nat.div_le_div_right h)
   simp only[bh];omega
theorem Ks{A:List Int}{k:Nat}{x:Int}(hx:A[k]?=some x):vI A=vI (A.take k)+pI k*(x+1000000000*vI (A.drop (k+1))):=by
 have hk:=mM hx
 rw[HT A k (by omega),ke hx,vI]
theorem Yiv{A B:List Int}{k:Nat}{x y:Int}(hA:Di A)(hB:Di B)(hx:A[k]?=some x)(hy:B[k]?=some y)(he:A.drop (k+1)=B.drop (k+1))(M0:x<y):vI A<vI B:=by
 have hk:=mM hx
 rw[Ks hx,Ks hy,he]
 have h1:=rW (hA.take k)
 have h2:=rV (hB.take k)
 rw[fR,nA (by omega)]at h1
 have h3:pI k*(x+1000000000*vI (B.drop (k+1))+1)<=pI k*(y+1000000000*vI (B.drop (k+1))):=oI (by omega) (rf (zU k))
 have h4:pI k*(x+1000000000*vI (B.drop (k+1))+1)=pI k*(x+1000000000*vI (B.drop (k+1)))+pI k:=by grind
 omega
def zt(a b:Nat):Int:=if a<b then -1 else if b<a then 1 else 0
theorem Vd{h:T O}{N:Nat}{u v:V}{a b:Nat}{w:List Nat}(hu:Dn h N u a)(hv:Dn h N v b)(hl:(ds a).length<1152921504606846976)(kl:(ds b).length<1152921504606846976):A.C.call (.func 236 [] []) [u,v] ⟨h,N,w⟩=some (.int .i64 (zt a b),⟨h,N,w⟩):=by
 apply Call.eq
 have lu:=hu.len
 have lv:=hv.len
 rw[gk]at lu lv
 have va:=fH a
 have vb:=fH b
 have da:=fA a
 have db:=fA b
 rw[aR,A.k236 (by simp)]
 unfold zt
 by_cases h1:(ds a).length=(ds b).length
 ·have gh:((ds a).length:Int)=((ds b).length:Int):=by omega
  simp(disch:=omega) [A.b236,lu,lv,h1]
  generalize hA:ds a=X at*
  generalize hB:ds b=Y at*
  refine bQ [(4,5),(19,40)] (fun e r st=>st=⟨h,N,[]⟩/\((e=.exit 0/\a=b)\/(e=.ret/\a<b/\r.get 4=some (.int .i64 (-1)))\/(e=.ret/\b<a/\r.get 4=some (.int .i64 1)))) (fun m r st=>st=⟨h,N,[]⟩/\m<=X.length/\r.get 5=some (.int .i64 ((m:Int)-1))/\X.drop m=Y.drop m) X.length ?_ ?_ ?_
  ·exact⟨rfl,aS _,by simp[h1],by rw[og,h1,og]⟩
  ·rintro m r _ hr hf ⟨rfl,hm,h5,he⟩
   rw[bA]
   cases m with
   |zero=>
    have:a=b:=by
     simp at he;rw[he]at va;omega
    simp[A.ja,hf,h5,this]
   |succ k=>
    obtain⟨x,hx⟩:=bV (l:=X) (k:=k) (by omega)
    obtain⟨y,hy⟩:=bV (l:=Y) (k:=k) (by omega)
    obtain⟨b1,b2,b3,b4,b5,z1,z2,z3,z4⟩:=Sl.at (show Sl h N u (dI (ds a)) from hu) (by rw[hA];exact fU hx)
    obtain⟨c1,c2,c3,c4,c5,y1,y2,y3,y4⟩:=Sl.at (show Sl h N v (dI (ds b)) from hv) (by rw[hB];exact fU hy)
    have nV:(((k+1:Nat):Int)-1)=(k:Int):=by omega
    rw[nV]at h5
    have cK:(k:Int)<(X.length:Int):=by omega
    have jJ:(k:Int)<(Y.length:Int):=by omega
    have zj:(0:Int)<=(k:Int):=by omega
    have hk4:k<Y.length:=by omega
    by_cases aD:x<y
    ·have:=Yiv da db hx hy he aD
     have gT:a<b:=by omega
     simp[A.ja,hr,hf,h5,lu,lv,cK,jJ,zj,z1,z2,z3,z4,y1,y2,y3,y4,aD,gT]
    ·by_cases Gy:y<x
     ·have:=Yiv db da hy hx he.symm Gy
      have gT:b<a:=by omega
      have Fb:¬a<b:=by omega
      simp[A.ja,hr,hf,h5,lu,lv,cK,jJ,zj,z1,z2,z3,z4,y1,y2,y3,y4,aD,Gy,gT,Fb]
     ·have M0:x=y:=by omega
      simp(disch:=first|(simp;done)|omega|rfl) [A.ja,hr,hf,h5,lu,lv,zj,z1,z2,z3,z4,y1,y2,y3,y4,aD,Gy]
      exact⟨k,by omega,by omega,rfl,by rw[ke hx,ke hy,he,M0]⟩
  ·rintro e r _ hr ⟨rfl,⟨rfl,hz⟩|⟨rfl,hz,h4⟩|⟨rfl,hz,h4⟩⟩
   ·simp[hz]
   ·simp[h4,hz]
   ·have:¬a<b:=by omega
    simp[h4,hz,this]
 ·have gh:¬((ds a).length:Int)=((ds b).length:Int):=by omega
  by_cases h2:(ds a).length<(ds b).length
  ·have gT:a<b:=by
    apply qd;intro hc;have:=rG hc;omega
   simp[A.b236,lu,lv,h1,h2,gT]
  ·have gT:b<a:=by
    apply qd;intro hc;have:=rG hc;omega
   have Fb:¬a<b:=by omega
   simp[A.b236,lu,lv,h1,h2,gT,Fb]
structure DdA (h:T O) (N:Nat) (l:List Int) (d:Int) (m:Nat) (r:T V) (st:St):Prop where
 w:ad N st.w=[]
 ae:ab h N st.h (N+1)
 n:st.n=N+1
 r8:r.get 8=some (.int .i64 ((m:Int)-1))
 hm:m<=l.length
 ex:∃out rest,st.h.get N=some (.cells (dI out) 3 true)/\out.length=l.length/\r.get 7=some (.int .i64 rest)/\0<=rest/\rest<d/\Di (out.drop m)/\vI (out.drop m)*d+rest=vI (l.drop m)
theorem Znn{h:T O}{N:Nat}{v:V}{l:List Int}{d:Int}(hs:Sl h N v (dI l))(hd:Di l)(hl:l.length<1099511627776)(h0:0<d)(h1:d<1000000000):Fn A.C 264 [v,.int .i64 d] h N (fun u h' n'=>∃q,u=.aZ [q,.int .i64 ((vI l).toNat%d.toNat:Nat)]/\Dn h' n' q ((vI l).toNat/d.toNat)):=by
 intro w
 have lv:=hs.len
 rw[gk]at lv
 rw[aR,A.k264 (by simp)]
 simp(disch:=first|(simp;done)|omega|rfl) [A.b264,lv]
 refine bQ [(7,9),(16,35)] (fun e r st=>e=.exit 0/\DdA h N l d 0 r st) (DdA h N l d) l.length ?_ ?_ ?_
 ·refine⟨by simp,ab.refl.new _,rfl,by simp,aS _,List.replicate l.length 0,0,by simp[Rm],by simp,by simp,by omega,h0,?_,?_⟩
  ·rw[wU (by simp)];exact Di.nil
  ·rw[wU (by simp),og];simp[vI]
 ·rintro m r ⟨H,n1,W⟩ hr hf ⟨hW,hK,hn,h8,hm,out,rest,ar,iN,h7,ef,Og,gL,hv⟩
  simp only at hW hK hn ar
  subst hn
  rw[bA]
  cases m with
  |zero=>
   simp[A.pC,hf,h8]
   exact⟨hW,hK,rfl,by simpa using h8,hm,out,rest,ar,iN,by simp[h7],ef,Og,gL,hv⟩
  |succ k=>
   obtain⟨x,hx⟩:=bV (l:=l) (k:=k) (by omega)
   obtain⟨b1,b2,b3,b4,b5,z1,z2,z3,z4⟩:=hs.at (fU hx)
   have z3:=(hK.get _ z2).trans z3
   have Kt:=hd.get hx
   have nV:(((k+1:Nat):Int)-1)=(k:Int):=by omega
   rw[nV]at h8
   have cK:(k:Int)<(l.length:Int):=by omega
   have jJ:k<l.length:=by omega
   have zj:(0:Int)<=(k:Int):=by omega
   have w1:bn .i64 (rest*1000000000)=rest*1000000000:=cj (by omega) (by omega)
   have w2:bn .i64 (rest*1000000000+x)=rest*1000000000+x:=cj (by omega) (by omega)
   have s0:0<=rest*1000000000+x:=by omega
   have oO:¬d=0:=by omega
   have t1:(rest*1000000000+x).tdiv d=(rest*1000000000+x)/d:=yA s0
   have t2:(rest*1000000000+x).tmod d=(rest*1000000000+x)%d:=Bk s0
   have t3:=Bn (rest*1000000000+x) d
   have t4:0<=(rest*1000000000+x)/d:=Int.ediv_nonneg s0 (by omega)
   have t5:(rest*1000000000+x)/d<1000000000:=by
    apply Int.ediv_lt_of_lt_mul h0
    omega
   have t6:=Bm (rest*1000000000+x) oO
   have t7:=Bo (rest*1000000000+x) h0
   have w3:bn .i64 ((rest*1000000000+x)/d)=(rest*1000000000+x)/d:=cj (by omega) (by omega)
   have w8:=gk out
   have w7:=yU (l:=out) (k:=k) (v:=(rest*1000000000+x)/d) (by omega)
   simp(disch:=first|(simp;done)|omega|rfl) [A.pC,hr,hf,h8,h7,zj,lv,z1,z3,z4,w1,w2,w3,t1,t2,ar,w7]
   have e1:(out.set k ((rest*1000000000+x)/d)).drop k=((rest*1000000000+x)/d)::out.drop (k+1):=by
    rw[ke (d:=(rest*1000000000+x)/d) (by rw[lW (by omega)])]
    rw[List.drop_set_of_lt (by omega)]
   generalize (rest*1000000000+x)/d=q at*
   generalize (rest*1000000000+x)%d=r' at*
   refine⟨k,by omega,⟨by simp[ad,hW],hK.set (aS N),rfl,by simp,by omega,out.set k q,r',by simp,by simp[iN],by simp,t6,t7,?_,?_⟩⟩
   ·rw[e1];exact Di.app (Di.one t4 t5) gL
   ·rw[e1,ke hx,vI,vI,<-hv]
    grind
 ·rintro _ r ⟨H,n1,W⟩ hr ⟨rfl,hW,hK,hn,h8,hm,out,rest,ar,iN,h7,ef,Og,gL,hv⟩
  simp only at hW hK hn ar
  subst hn
  rw[yF,yF]at*
  have jY:Sl H (N+1) (.slice N 0 l.length (some l.length) 1) (dI out):=Sl.row (by omega) ar (by simp[iN]) (fun k hk=>by simp at hk;omega)
  simp[hr]
  refine ax (Fa jY (by omega)) ?_
  rintro u h2 n2 k2 hu
  have hvo:=rV gL
  have hvl:=rV hd
  have m1:(vI l).toNat/d.toNat=(vI out).toNat:=by
   have:(vI l)/d=vI out:=by
    rw[<-hv,Int.mul_comm,Int.add_comm,Int.add_mul_ediv_left _ _ (by omega),Int.ediv_eq_zero_of_lt ef Og];omega
   rw[<-this]
   obtain⟨a,ha⟩:=Bi hvl
   obtain⟨b,hb⟩:=Bi (rf h0)
   rw[ha,hb];rfl
  have m2:(((vI l).toNat%d.toNat:Nat):Int)=rest:=by
   have:(vI l)%d=rest:=by
    rw[<-hv,Int.mul_comm,Int.add_comm,Int.add_mul_emod_self_left,Int.emod_eq_of_lt ef Og]
   rw[<-this]
   obtain⟨a,ha⟩:=Bi hvl
   obtain⟨b,hb⟩:=Bi (rf h0)
   rw[ha,hb];rfl
  rw[Ro gL]at hu
  have m2':rest=max (vI l) 0%max d 0:=by rw[<-m2];simp
  simp[h7,aA,hW]
  refine⟨hK.trans k2,u,⟨rfl,m2'⟩,?_⟩
  rw[m1]
  exact hu
def A.pD:aq:=.seq (sr [mv 22 8,mv 23 1,ln 24 23,bi 25 .lss 22 24]
 (cd 25
 (.skip)
 (.exit 2)))
 (.seq (.block 3 (.seq (.aV [mv 28 5,mv 29 6,mv 30 8,bi 31 .add 29 30,ia 32 1 28 31,ld 33 32,mv 34 0,mv 35 6,ia 36 1 34 35,ld 37 36,mv 38 1,mv 39 8,ia 40 1 38 39,ld 41 40,bi 42 .mul 37 41,bi 43 .add 33 42,mv 44 7,bi 45 .add 43 44,mv 9 45] [0,0,0,6,15,31,0,0,192,448,0,0,3072,7168,16320,32767,0,131071,262143])
 (sr [mv 46 5,mv 47 6,mv 48 8,bi 49 .add 47 48,mv 50 9,bc 51 .rem 50 1000000000,ia 52 1 46 49,so 52 51]
 (.aM [mv 53 9,bc 54 .quo 53 1000000000,mv 7 54]))))
 (.aM [mv 26 8,bc 27 .add 26 1,mv 8 27]))
def A.pE:aq:=.seq (sr [mv 16 6,mv 17 0,ln 18 17,bi 19 .lss 16 18]
 (cd 19
 (.skip)
 (.exit 0)))
 (.seq (.block 1 (sr [mc 7 0]
 (.seq (sr [mc 8 0]
 (.block 2 (.loop A.pD)))
 (.aM [mv 55 5,mv 56 6,mv 57 1,ln 58 57,bi 59 .add 56 58,mv 60 5,mv 61 6,mv 62 1,ln 63 62,bi 64 .add 61 63,ia 65 1 60 64,ld 66 65,mv 67 7,bi 68 .add 66 67,ia 69 1 55 59,so 69 68]))))
 (.aM [mv 20 6,bc 21 .add 20 1,mv 6 21]))
def A.b238:aq:=sr [mN 4]
 (sr [mv 10 0,ln 11 10,mv 12 1,ln 13 12,bi 14 .add 11 13,⟨(some 15),.bO 3 1 8 [(.int .i64 0)] (.tmp 14) (.tmp 14),none⟩,mv 5 15]
 (.seq (sr [mc 6 0]
 (.block 0 (.loop A.pE)))
 (sr [mv 70 5,c1 71 265 70,mv 4 71]
 (.ret))))
theorem A.c238:A.F 238=some ⟨72,[.tmp 4],A.b238⟩:=by kernel_rfl
def A.k238:=@A.kk 238 _ _ _ A.c238 rfl
structure MuB (h:T O) (N:Nat) (la lb:List Int) (i:Nat) (Ve:List Int) (a:Int) (m:Nat) (r:T V) (st:St):Prop where
 w:ad N st.w=[]
 ae:ab h N st.h (N+1)
 n:st.n=N+1
 ex:∃k out c,k+m=lb.length/\r.get 8=some (.int .i64 k)/\st.h.get N=some (.cells (dI out) 3 true)/\out.length=la.length+lb.length/\r.get 7=some (.int .i64 c)/\0<=c/\c<1000000000/\Di out/\(∀t,i+lb.length<=t->t<out.length->out[t]?=some 0)/\vI out+pI (i+k)*c=vI Ve+pI i*(a*vI (lb.take k))
structure MuA (h:T O) (N:Nat) (la lb:List Int) (m:Nat) (r:T V) (st:St):Prop where
 w:ad N st.w=[]
 ae:ab h N st.h (N+1)
 n:st.n=N+1
 ex:∃i out,i+m=la.length/\r.get 6=some (.int .i64 i)/\st.h.get N=some (.cells (dI out) 3 true)/\out.length=la.length+lb.length/\Di out/\(∀t,i+lb.length<=t->t<out.length->out[t]?=some 0)/\vI out=vI (la.take i)*vI lb
theorem Vg{h:T O}{N:Nat}{u v:V}{la lb:List Int}{a b:Nat}(hu:Sl h N u (dI la))(hv:Sl h N v (dI lb))(da:Di la)(db:Di lb)(ea:vI la=a)(eb:vI lb=b)(hl:la.length+lb.length<1099511627776):Fn A.C 238 [u,v] h N (fun x h' n'=>Dn h' n' x (a*b)):=by
 intro w
 have lu:=hu.len
 have lv:=hv.len
 rw[gk]at lu lv
 rw[aR,A.k238 (by simp)]
 have cs:((la.length:Int)+(lb.length:Int)).toNat=la.length+lb.length:=by omega
 simp(disch:=first|(simp;done)|omega|rfl) [A.b238,lu,lv,cs]
 refine bQ [(6,9),(16,69)] (fun e r st=>e=.exit 0/\MuA h N la lb 0 r st) (MuA h N la lb) la.length ?_ ?_ ?_
 ·refine⟨by simp,ab.refl.new _,rfl,0,List.replicate (la.length+lb.length) 0,by omega,by simp,by simp[Rm],by simp,Di.BC _,fun t _ ht=>?_,by simp[Ri,vI]⟩
  simp at ht
  simp[ht]
 ·rintro m r ⟨H,n1,W⟩ hr hf ⟨hW,hK,hn,i,out,hi,h6,ar,iN,gL,hz,mw⟩
  simp only at hW hK hn ar
  subst hn
  rw[bA]
  cases m with
  |zero=>
   have:i=la.length:=by omega
   subst this
   simp[A.pE,hr,hf,h6,lu]
   exact⟨hW,hK,rfl,la.length,out,by omega,by simp[h6],ar,iN,gL,hz,mw⟩
  |succ m=>
   obtain⟨x,hx⟩:=bV (l:=la) (k:=i) (by omega)
   obtain⟨b1,b2,b3,b4,b5,z1,z2,z3,z4⟩:=hu.at (fU hx)
   have z3:=(hK.get _ z2).trans z3
   have Kt:=da.get hx
   have xN:(i:Int)<(la.length:Int):=by omega
   have M6:i<la.length:=by omega
   simp[A.pE,hr,h6,xN,lu]
   refine bQ [(7,9),(22,54)] (fun e r st=>e=.exit 2/\MuB h N la lb i out x 0 r st) (MuB h N la lb i out x) lb.length ?_ ?_ ?_
   ·exact⟨hW,hK,rfl,0,out,0,by omega,by simp,ar,iN,by simp,by omega,by omega,gL,hz,by simp[vI]⟩
   ·rintro m2 r2 ⟨H2,n2,W2⟩ ew fI ⟨eE,fu,ft,k,mG,c,hk,h8,n_,AV,h7,c0,c1,jC,cX,iH⟩
    simp only at eE fu ft n_
    subst ft
    rw[bA]
    cases m2 with
    |zero=>
     have:k=lb.length:=by omega
     subst this
     simp[A.pD,hr,ew,fI,h8,lv]
     exact⟨eE,fu,rfl,lb.length,mG,c,by omega,by simp[h8],n_,AV,by simp[h7],c0,c1,jC,cX,iH⟩
    |succ m2=>
     obtain⟨y,hy⟩:=bV (l:=lb) (k:=k) (by omega)
     obtain⟨g1,g2,g3,g4,g5,y1,y2,y3,y4⟩:=hv.at (fU hy)
     have y3:=(fu.get _ y2).trans y3
     have z3:=(fu.get _ z2).trans ((hK.get _ z2).symm.trans z3)
     have Hh:=db.get hy
     obtain⟨o,ho⟩:=bV (l:=mG) (k:=i+k) (by omega)
     have hod:=jC.get ho
     have cK:(k:Int)<(lb.length:Int):=by omega
     have jJ:k<lb.length:=by omega
     have p0:0<=x*y:=tO Kt.1 Hh.1
     have p1:x*y<=999999999*999999999:=Int.mul_le_mul (by omega) (by omega) Hh.1 (by omega)
     have q1:(i:Int)+(k:Int)<(la.length:Int)+(lb.length:Int):=by omega
     have q2:i+k<la.length+lb.length:=by omega
     have q3:(0:Int)<=(i:Int)+(k:Int):=by omega
     have t1:(o+x*y+c).tmod 1000000000=(o+x*y+c)%1000000000:=Bk (by omega)
     have t2:(o+x*y+c).tdiv 1000000000=(o+x*y+c)/1000000000:=yA (by omega)
     have w8:=gk mG
     have w7:=yU (l:=mG) (k:=i+k) (v:=(o+x*y+c)%1000000000) (by omega)
     have e1:vI (mG.set (i+k) ((o+x*y+c)%1000000000))+pI (i+(k+1))*((o+x*y+c)/1000000000)=vI out+pI i*(x*vI (lb.take (k+1))):=by
      have hm:=Bn (o+x*y+c) 1000000000
      rw[zW ho,vX hy,show i+(k+1)=(i+k)+1 by omega,rU]
      have hp:=LR i k
      generalize (o+x*y+c)/1000000000=Q at*
      generalize (o+x*y+c)%1000000000=R at*
      have:R=o+x*y+c-1000000000*Q:=by omega
      rw[this]
      have h3:vI mG=vI out+pI i*(x*vI (lb.take k))-pI (i+k)*c:=by omega
      rw[h3,hp]
      grind
     generalize hP:x*y=P at*
     have b1':bn .i64 P=P:=cj (by omega) (by omega)
     have b2':bn .i64 (o+P)=o+P:=cj (by omega) (by omega)
     have b3':bn .i64 (o+P+c)=o+P+c:=cj (by omega) (by omega)
     have b4':bn .i64 ((o+P+c)/1000000000)=(o+P+c)/1000000000:=cj (by omega) (by omega)
     have f1:b1<N+1:=by omega
     have f2:g1<N+1:=by omega
     have r0:=Bm (o+P+c) (b:=1000000000) (by decide)
     have r1:=Bo (o+P+c) (b:=1000000000) (by decide)
     have d0:0<=(o+P+c)/1000000000:=Int.ediv_nonneg (by omega) (by decide)
     have d1:(o+P+c)/1000000000<1000000000:=Int.ediv_lt_of_lt_mul (by decide) (by omega)
     simp(disch:=first|(simp;done)|omega|rfl) [-getElem?_pos,A.pD,hr,ew,fI,h6,h7,h8,lu,lv,cK,n_,fU ho,z1,z3,z4,y1,y3,y4,hP,b1',b2',b3',b4',t1,t2,w7,f1,f2]
     refine⟨m2,by omega,⟨by simp[ad,eE],fu.set (aS N),rfl,k+1,_,_,by omega,by simp,by simp,by simp[AV],by simp,d0,d1,jC.set r0 r1,fun t Tw wm=>?_,e1⟩⟩
     rw[eI (by omega)]
     exact cX t Tw (by simpa using wm)
   ·rintro _ r2 ⟨H2,n2,W2⟩ ew ⟨rfl,eE,fu,ft,k,mG,c,hk,h8,n_,AV,h7,c0,c1,jC,cX,iH⟩
    simp only at eE fu ft n_
    subst ft
    have:k=lb.length:=by omega
    subst this
    have ho:=cX (i+lb.length) (by omega) (by omega)
    have zq:=hf.inner (D':=[(7,9),(22,54)]) rfl (by simp) ew
    have q1:(i:Int)+(lb.length:Int)<(la.length:Int)+(lb.length:Int):=by omega
    have q2:i+lb.length<la.length+lb.length:=by omega
    have q3:(0:Int)<=(i:Int)+(lb.length:Int):=by omega
    have w8:=gk mG
    have w7:=yU (l:=mG) (k:=i+lb.length) (v:=c) (by omega)
    rw[vK]at iH
    have e1:vI (mG.set (i+lb.length) c)=vI (la.take (i+1))*vI lb:=by
     rw[zW ho,vX hx]
     have:vI mG+pI (i+lb.length)*(c-0)=vI out+pI i*(x*vI lb):=by rw[Int.sub_zero];exact iH
     rw[this,mw]
     grind
    simp(disch:=first|(simp;done)|omega|rfl) [-getElem?_pos,hr,ew,h6,h7,lv,n_,fU ho,w7,zq]
    refine⟨m,by omega,⟨by simp[ad,eE],fu.set (aS N),rfl,i+1,_,by omega,by simp,by simp,by simp[AV],jC.set c0 c1,fun t Tw wm=>?_,e1⟩⟩
    rw[eI (by omega)]
    exact cX t (by omega) (by simpa using wm)
 ·rintro _ r ⟨H,n1,W⟩ hr ⟨rfl,hW,hK,hn,i,out,hi,h6,ar,iN,gL,hz,mw⟩
  simp only at hW hK hn ar
  subst hn
  have:i=la.length:=by omega
  subst this
  rw[vK,ea,eb]at mw
  have jY:Sl H (N+1) (.slice N 0 (la.length+lb.length) (some (la.length+lb.length)) 1) (dI out):=Sl.row (by omega) ar (by simp[iN]) (fun k hk=>by simp at hk;omega)
  simp[hr]
  refine ax (Fa jY (by omega)) ?_
  rintro y h2 n2 k2 hy
  rw[Dt gL (n:=a*b) (by rw[mw];simp)]at hy
  simp[aA,hW]
  exact⟨hK.trans k2,hy⟩
end Go.Mx
