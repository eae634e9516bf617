/-
  lensletref01.guess.
-/
import Derived.Test.YtppobccilnifoaaGreatDoorRbB
set_option linter.all false
namespace Go.Mx
open Go Go.Proofs
set_option maxRecDepth 1000000
def A.lb201_0:MCode:=.seq (.seq (.regD [mv 42 9,bc 43 .geq 42 1000000000,mv 44 43,⟨(some 45),.mov (.tmp 9),(some (44,false))⟩,⟨(some 46),.mov (.tmp 1),(some (44,false))⟩,⟨(some 47),.mov (.tmp 7),(some (44,false))⟩,⟨(some 48),.bin .sub (.node []) false (.tmp 47) (.const (.int .i64 2)),(some (44,false))⟩,⟨(some 49),.iaddrSl 1 (.tmp 46) (.tmp 48),(some (44,false))⟩,⟨(some 50),.load none (.tmp 49),(some (44,false))⟩,⟨(some 51),.bin .mul (.node []) false (.tmp 45) (.tmp 50),(some (44,false))⟩,⟨(some 52),.mov (.tmp 10),(some (44,false))⟩,⟨(some 53),.bin .mul (.node []) false (.tmp 52) (.const (.int .i64 1000000000)),(some (44,false))⟩,⟨(some 54),.mov (.tmp 0),(some (44,false))⟩,⟨(some 55),.mov (.tmp 2),(some (44,false))⟩,⟨(some 56),.mov (.tmp 7),(some (44,false))⟩,⟨(some 57),.bin .add (.node []) false (.tmp 55) (.tmp 56),(some (44,false))⟩,⟨(some 58),.bin .sub (.node []) false (.tmp 57) (.const (.int .i64 2)),(some (44,false))⟩,⟨(some 59),.iaddrSl 1 (.tmp 54) (.tmp 58),(some (44,false))⟩,⟨(some 60),.load none (.tmp 59),(some (44,false))⟩,⟨(some 61),.bin .add (.node []) false (.tmp 53) (.tmp 60),(some (44,false))⟩,⟨(some 62),.bin .gtr (.node []) false (.tmp 51) (.tmp 61),(some (44,false))⟩,⟨(some 63),.pick (.tmp 44) (.const (.bool true)) (.tmp 62),none⟩] [0,1,3,7,7,7,39,119,247,511,7,1031,7,7,7,24583,57351,126983,258055,523271,1048575,2097151])
 (.cond (.tmp 63)
 (.skip)
 (.exit 0)))
 (.block 1 (.seq (.reg [mv 64 9,bc 65 .sub 64 1,mv 9 65])
 (.seq (.reg [mv 66 10,mv 67 1,mv 68 7,bc 69 .sub 68 1,ia 70 1 67 69,ld 71 70,bi 72 .add 66 71,mv 10 72])
 (.seq (.reg [mv 73 10,bc 74 .geq 73 1000000000])
 (.cond (.tmp 74)
 (.seq (.reg [mv 75 9,mv 6 75])
 (.ret))
 (.skip))))))
def A.b201:MCode:=.seq (.reg [mc 6 0])
 (.seq (.reg [mv 11 1,ln 12 11,mv 7 12])
 (.seq (.regD [mv 13 0,mv 14 2,mv 15 7,bi 16 .add 14 15,ia 17 1 13 16,ld 18 17,bc 19 .mul 18 1000000000,mv 20 0,mv 21 2,mv 22 7,bi 23 .add 21 22,bc 24 .sub 23 1,ia 25 1 20 24,ld 26 25,bi 27 .add 19 26,mv 8 27] [0,0,0,6,15,31,63,0,0,0,768,1792,3968,8064,16383,32767])
 (.seq (.regD [mv 28 8,mv 29 1,mv 30 7,bc 31 .sub 30 1,ia 32 1 29 31,ld 33 32,bi 34 .quo 28 33,mv 35 8,mv 36 1,mv 37 7,bc 38 .sub 37 1,ia 39 1 36 38,ld 40 39,bi 41 .rem 35 40,mv 9 34,mv 10 41] [0,0,0,4,14,30,63,0,0,0,512,1792,3840,8064,127,32767])
 (.seq (.block 0 (.loop A.lb201_0))
 (.seq (.reg [mv 76 9,mv 6 76])
 (.ret))))))
theorem A.c201:cFunc Tryz.prog 201=some ⟨77,[.tmp 6],A.b201⟩:=by kernel_rfl
def A.k201{K Q f c args st}:=@A.kk 201 _ _ _ A.c201 rfl K Q f c args st
structure GuR (W D v1 top:Int) (m:Nat) (r:T V):Prop where
 ex:∃t q:Int,t.toNat=m∧r.get 9=some (.int .i64 t)∧r.get 10=some (.int .i64 q)∧0≤t∧t≤1000000001∧0≤q∧q<1000000000∧top=t*v1+q∧W<(t+1)*D
set_option maxHeartbeats 2000000 in
theorem guess_eq{h:T O}{N:Nat}{u v:V}{L Y:List Int}{j k:Nat}{d1 d2 d3 v1 v2 P U' V' W D:Int}{w:List Nat}(hu:Sl h N u (dI L))(hv:Sl h N v (dI Y))(hY:Y.length=k+2)(hL:L.length<1099511627776)(e1:L[j+k]?=some d1)(e2:L[j+k+1]?=some d2)(e3:L[j+k+2]?=some d3)(f2:Y[k]?=some v2)(f1:Y[k+1]?=some v1)
  (r1:0≤d1∧d1<1000000000) (r2:0≤d2∧d2<1000000000) (r3:0≤d3∧d3<1000000000) (r4:500000000≤v1∧v1<1000000000) (r5:0≤v2∧v2<1000000000) (hP:0<P) (hU0:0≤U') (hU:U'<P) (hV0:0≤V') (hV:V'<P) (hW:W=U'+P*(d1+1000000000*(d3*1000000000+d2))) (hD:D=V'+P*(v2+1000000000*v1)) (hWD:W<1000000000*D):
  ∃t,A.C.call (.func 201 [] []) [u,v,.int .i64 j] ⟨h,N,w⟩=some (.int .i64 t,⟨h,N,w⟩)∧0≤t∧t≤1000000000∧(t-1)*D≤W∧W<(t+1)*D:=by
 have lu:=hu.len
 have lv:=hv.len
 rw[dI_length]at lu lv
 rw[hY]at lv
 have hjk:=lt_of_get e3
 have goal:Call A.C (.func 201 [] []) [u,v,.int .i64 j] ⟨h,N,w⟩ (fun x s=>s=⟨h,N,w⟩∧∃t,x=.int .i64 t∧0≤t∧t≤1000000000∧(t-1)*D≤W∧W<(t+1)*D):=by
  obtain⟨a1,a2,a3,a4,a5,x1,x2,x3,x4⟩:=hu.at (dI_get e1)
  obtain⟨a1',a2',a3',a4',a5',x1',x2',x3',x4'⟩:=hu.at (dI_get e2)
  obtain⟨a1'',a2'',a3'',a4'',a5'',x1'',x2'',x3'',x4''⟩:=hu.at (dI_get e3)
  rw[x1]at x1' x1''
  simp only[Option.some.injEq,Prod.mk.injEq]at x1' x1''
  obtain⟨rfl,rfl⟩:=x1'
  obtain⟨rfl,rfl⟩:=x1''
  rw[x3]at x3' x3''
  simp only[Option.some.injEq,O.cells.injEq]at x3' x3''
  obtain⟨rfl,rfl,rfl⟩:=x3'
  obtain⟨rfl,_,_⟩:=x3''
  obtain⟨b1,b2,b3,b4,b5,y1,y2,y3,y4⟩:=hv.at (dI_get f2)
  obtain⟨b1',b2',b3',b4',b5',y1',y2',y3',y4'⟩:=hv.at (dI_get f1)
  rw[y1]at y1'
  simp only[Option.some.injEq,Prod.mk.injEq]at y1'
  obtain⟨rfl,rfl⟩:=y1'
  rw[y3]at y3'
  simp only[Option.some.injEq,O.cells.injEq]at y3'
  obtain⟨rfl,_,_⟩:=y3'
  have c1:((k:Int)+2-1)=(k:Int)+1:=by omega
  have c2:((j:Int)+((k:Int)+2)-1)=(j:Int)+(k:Int)+1:=by omega
  have c3:((j:Int)+((k:Int)+2)-2)=(j:Int)+(k:Int):=by omega
  have c4:((k:Int)+2-2)=(k:Int):=by omega
  have c5:((j:Int)+((k:Int)+2))=(j:Int)+(k:Int)+2:=by omega
  have i1:(j:Int)+(k:Int)+2<(L.length:Int):=by omega
  have i2:(j:Int)+(k:Int)+1<(L.length:Int):=by omega
  have i3:(j:Int)+(k:Int)<(L.length:Int):=by omega
  have i4:(0:Int)≤(j:Int)+(k:Int)+2:=by omega
  have i5:(0:Int)≤(j:Int)+(k:Int)+1:=by omega
  have i6:(0:Int)≤(j:Int)+(k:Int):=by omega
  have n1:((j:Int)+(k:Int)+2).toNat=j+k+2:=by omega
  have n2:((j:Int)+(k:Int)+1).toNat=j+k+1:=by omega
  have n3:((j:Int)+(k:Int)).toNat=j+k:=by omega
  have n4:((k:Int)+1).toNat=k+1:=by omega
  have k1:(k:Int)+1<(k:Int)+2:=by omega
  have k2:(k:Int)<(k:Int)+2:=by omega
  have k3:(0:Int)≤(k:Int)+1:=by omega
  have u1:wrapF .i64 (d3*1000000000)=d3*1000000000:=wrapF_i64 (by omega) (by omega)
  have u2:wrapF .i64 (d3*1000000000+d2)=d3*1000000000+d2:=wrapF_i64 (by omega) (by omega)
  have s0:0≤d3*1000000000+d2:=by omega
  have v0:¬v1=0:=by omega
  have t1:(d3*1000000000+d2).tdiv v1=(d3*1000000000+d2)/v1:=Int.tdiv_eq_ediv_of_nonneg s0
  have t2:(d3*1000000000+d2).tmod v1=(d3*1000000000+d2)%v1:=Int.tmod_eq_emod_of_nonneg s0
  have t3:=Int.mul_ediv_add_emod (d3*1000000000+d2) v1
  have t4:=Int.emod_nonneg (d3*1000000000+d2) v0
  have t5:=Int.emod_lt_of_pos (d3*1000000000+d2) (b:=v1) (by omega)
  have gi:=g_init (t:=(d3*1000000000+d2)/v1) (r:=(d3*1000000000+d2)%v1) hP hU0 hU hV0 hV r1.1 r1.2 r2.1 r3.1 r4.1 r5.1 r5.2 (by rw[←hW,←hD];exact hWD) (by rw[Int.mul_comm (_/_) v1];exact t3.symm) t4 t5
  rw[←hW,←hD]at gi
  obtain⟨g1,g2,g3⟩:=gi
  have t6:wrapF .i64 ((d3*1000000000+d2)/v1)=(d3*1000000000+d2)/v1:=wrapF_i64 (by omega) (by omega)
  rw[call_run,A.k201 (by simp)]
  simp(disch:=first|(simp;done)|omega|rfl) [-getElem?_pos,A.b201,lv,lu,c1,c2,c3,c4,c5,i1,i2,i3,i4,i5,i6,n1,n2,n3,n4,k1,k2,k3,x1,x2,x3,x4,x4',x4'',y1,y2,y3,y4,y4',u1,u2,v0,t1,t2,t6]
  generalize hD1:d3*1000000000+d2=D1 at*
  refine run_loopD [(6,6),(9,10),(42,75)] (fun e r st=>st=⟨h,N,[]⟩∧((e=.exit 0∧∃t,r.get 9=some (.int .i64 t)∧0≤t∧t≤1000000000∧(t-1)*D≤W∧W<(t+1)*D)∨(e=.ret∧∃t,r.get 6=some (.int .i64 t)∧0≤t∧t≤1000000000∧(t-1)*D≤W∧W<(t+1)*D))) (fun m r st=>st=⟨h,N,[]⟩∧GuR W D v1 D1 m r) (D1/v1).toNat ?_ ?_ ?_
  ·exact⟨rfl,⟨D1/v1,D1%v1,rfl,by simp,by simp,g1,g2,t4,by omega,by rw[Int.mul_comm (_/_) v1];exact t3.symm,g3⟩⟩
  ·rintro m r _ hr hf ⟨rfl,⟨t,q,rfl,h9,h10,tq0,tq1,q0,q1,htop,hlt⟩⟩
   rw[code_run]
   by_cases hA:1000000000≤t
   ·have hlt:W<t*D:=by
     have d0:0≤D:=by
      have:=Int.mul_nonneg (Int.le_of_lt hP) (show 0≤v2+1000000000*v1 by omega)
      omega
     have:=Int.mul_le_mul_of_nonneg_right hA d0
     omega
    have tp:1≤t:=by omega
    have hq2:wrapF .i64 (q+v1)=q+v1:=wrapF_i64 (by omega) (by omega)
    have ht2:wrapF .i64 (t-1)=t-1:=wrapF_i64 (by omega) (by omega)
    have e5:D1=t*v1+q:=htop
    have e6:(t-1)*v1+(q+v1)=t*v1+q:=by grind
    by_cases hge:1000000000≤q+v1
    ·simp(disch:=first|(simp;done)|omega|rfl) [-getElem?_pos,A.lb201_0,hr,hf,h9,h10,lv,lu,c1,c2,c3,c4,c5,i1,i2,i3,i4,i5,i6,n1,n2,n3,n4,k1,k2,k3,x1,x2,x3,x4,x4',x4'',y1,y2,y3,y4,y4',hA,hq2,ht2,hge]
     refine⟨by omega,by omega,?_,hlt⟩
     have m1:(t-1)*v2≤1000000000*v2:=Int.mul_le_mul_of_nonneg_right (by omega) r5.1
     have:=kI_exit (t:=t-1) (r:=q+v1) (v1:=v1) (u1:=D1) hP hU0 r1.1 s0 (by omega) r5.1 hV0 hV (by omega) (by omega) (by rw[e6];exact htop) (by omega)
     rw[hW,hD]
     exact this
    ·simp(disch:=first|(simp;done)|omega|rfl) [-getElem?_pos,A.lb201_0,hr,hf,h9,h10,lv,lu,c1,c2,c3,c4,c5,i1,i2,i3,i4,i5,i6,n1,n2,n3,n4,k1,k2,k3,x1,x2,x3,x4,x4',x4'',y1,y2,y3,y4,y4',hA,hq2,ht2,hge]
     exact⟨(t-1).toNat,by omega,⟨t-1,q+v1,rfl,by simp,by simp,by omega,by omega,by omega,by omega,by rw[e6];exact htop,by rw[show t-1+1=t by omega];exact hlt⟩⟩
   ·have hA':¬1000000000≤t:=hA
    have m0:0≤t*v2:=Int.mul_nonneg tq0 r5.1
    have m1:t*v2≤1000000000*1000000000:=Int.mul_le_mul (by omega) (by omega) r5.1 (by omega)
    have b1':wrapF .i64 (t*v2)=t*v2:=wrapF_i64 (by omega) (by omega)
    have b2':wrapF .i64 (q*1000000000)=q*1000000000:=wrapF_i64 (by omega) (by omega)
    have b3':wrapF .i64 (q*1000000000+d1)=q*1000000000+d1:=wrapF_i64 (by omega) (by omega)
    by_cases hB:q*1000000000+d1<t*v2
    ·have hlt:W<t*D:=by
      have:=kI_step (t:=t) (r:=q) (v1:=v1) (u1:=D1) hP hU hV0 tq0 htop hB
      rw[hW,hD];exact this
     have tz:t≠0:=fun hc=>by rw[hc]at hB;simp at hB;omega
     have tp:1≤t:=by omega
     have hq2:wrapF .i64 (q+v1)=q+v1:=wrapF_i64 (by omega) (by omega)
     have ht2:wrapF .i64 (t-1)=t-1:=wrapF_i64 (by omega) (by omega)
     have e5:D1=t*v1+q:=htop
     have e6:(t-1)*v1+(q+v1)=t*v1+q:=by grind
     by_cases hge:1000000000≤q+v1
     ·simp(disch:=first|(simp;done)|omega|rfl) [-getElem?_pos,A.lb201_0,hr,hf,h9,h10,lv,lu,c1,c2,c3,c4,c5,i1,i2,i3,i4,i5,i6,n1,n2,n3,n4,k1,k2,k3,x1,x2,x3,x4,x4',x4'',y1,y2,y3,y4,y4',hA',b1',b2',b3',hB,hq2,ht2,hge]
      refine⟨by omega,by omega,?_,hlt⟩
      have m1:(t-1)*v2≤1000000000*v2:=Int.mul_le_mul_of_nonneg_right (by omega) r5.1
      have:=kI_exit (t:=t-1) (r:=q+v1) (v1:=v1) (u1:=D1) hP hU0 r1.1 s0 (by omega) r5.1 hV0 hV (by omega) (by omega) (by rw[e6];exact htop) (by omega)
      rw[hW,hD]
      exact this
     ·simp(disch:=first|(simp;done)|omega|rfl) [-getElem?_pos,A.lb201_0,hr,hf,h9,h10,lv,lu,c1,c2,c3,c4,c5,i1,i2,i3,i4,i5,i6,n1,n2,n3,n4,k1,k2,k3,x1,x2,x3,x4,x4',x4'',y1,y2,y3,y4,y4',hA',b1',b2',b3',hB,hq2,ht2,hge]
      exact⟨(t-1).toNat,by omega,⟨t-1,q+v1,rfl,by simp,by simp,by omega,by omega,by omega,by omega,by rw[e6];exact htop,by rw[show t-1+1=t by omega];exact hlt⟩⟩
    ·simp(disch:=first|(simp;done)|omega|rfl) [-getElem?_pos,A.lb201_0,hr,hf,h9,h10,lv,lu,c1,c2,c3,c4,c5,i1,i2,i3,i4,i5,i6,n1,n2,n3,n4,k1,k2,k3,x1,x2,x3,x4,x4',x4'',y1,y2,y3,y4,y4',hA',b1',b2',b3',hB]
     refine⟨tq0,by omega,?_,hlt⟩
     have:=kI_exit (t:=t) (r:=q) (u1:=D1) hP hU0 r1.1 s0 (by omega) r5.1 hV0 hV tq0 (by omega) htop (by omega)
     rw[hW,hD];exact this
  ·rintro e r _ hr ⟨rfl,⟨rfl,t,h9,ht⟩|⟨rfl,t,h6,ht⟩⟩
   ·simp(disch:=first|(simp;done)|omega|rfl) [-getElem?_pos,hr,h9];exact ht
   ·simp(disch:=first|(simp;done)|omega|rfl) [-getElem?_pos,hr,h6];exact ht
 obtain⟨x,s,hc,rfl,t,rfl,h1,h2,h3,h4⟩:=goal.ex
 exact⟨t,hc,h1,h2,h3,h4⟩
end Go.Mx
namespace Go.Mx
open Go Go.Proofs
set_option maxRecDepth 1000000
def A.lb160_0:MCode:=.seq (.seq (.reg [mv 148 20,mv 149 10,bi 150 .lss 148 149])
 (.cond (.tmp 150)
 (.skip)
 (.exit 6)))
 (.seq (.block 7 (.seq (.regD [mv 153 11,mv 154 20,mv 155 13,bi 156 .add 154 155,ia 157 1 153 156,ld 158 157,mv 159 9,mv 160 20,ia 161 1 159 160,ld 162 161,bi 163 .add 158 162,mv 164 19,bi 165 .add 163 164,mv 21 165] [0,0,0,6,15,31,0,0,192,448,1023,0,4095,8191])
 (.seq (.reg [mv 166 11,mv 167 20,mv 168 13,bi 169 .add 167 168,mv 170 21,bc 171 .rem 170 1000000000,ia 172 1 166 169,so 172 171])
 (.reg [mv 173 21,bc 174 .quo 173 1000000000,mv 19 174]))))
 (.reg [mv 151 20,bc 152 .add 151 1,mv 20 152]))
def A.lb160_1:MCode:=.seq (.seq (.reg [mv 90 16,mv 91 10,bi 92 .lss 90 91])
 (.cond (.tmp 92)
 (.skip)
 (.exit 4)))
 (.seq (.block 5 (.seq (.reg [mv 95 14,mv 96 9,mv 97 16,ia 98 1 96 97,ld 99 98,bi 100 .mul 95 99,mv 101 15,bi 102 .add 100 101,mv 17 102])
 (.seq (.reg [mv 103 11,mv 104 16,mv 105 13,bi 106 .add 104 105,ia 107 1 103 106,ld 108 107,mv 109 17,bc 110 .rem 109 1000000000,bi 111 .sub 108 110,mv 18 111])
 (.seq (.reg [mv 112 17,bc 113 .quo 112 1000000000,mv 15 113])
 (.seq (.seq (.reg [mv 114 18,bc 115 .lss 114 0])
 (.cond (.tmp 115)
 (.seq (.reg [mv 116 18,bc 117 .add 116 1000000000,mv 18 117])
 (.reg [mv 118 15,bc 119 .add 118 1,mv 15 119]))
 (.skip)))
 (.reg [mv 120 11,mv 121 16,mv 122 13,bi 123 .add 121 122,mv 124 18,ia 125 1 120 123,so 125 124]))))))
 (.reg [mv 93 16,bc 94 .add 93 1,mv 16 94]))
def A.lb160_2:MCode:=.seq (.seq (.reg [mv 82 13,bc 83 .geq 82 0])
 (.cond (.tmp 83)
 (.skip)
 (.exit 2)))
 (.seq (.block 3 (.seq (.reg [mv 86 11,mv 87 9,mv 88 13,⟨(some 89),.call (.const (.func 201 [] [])) [(.tmp 86),(.tmp 87),(.tmp 88)],none⟩,mv 14 89])
 (.seq (.reg [mc 15 0])
 (.seq (.seq (.reg [mc 16 0])
 (.block 4 (.loop A.lb160_1)))
 (.seq (.reg [mv 126 11,mv 127 13,mv 128 10,bi 129 .add 127 128,mv 130 11,mv 131 13,mv 132 10,bi 133 .add 131 132,ia 134 1 130 133,ld 135 134,mv 136 15,bi 137 .sub 135 136,ia 138 1 126 129,so 138 137])
 (.seq (.seq (.reg [mv 139 11,mv 140 13,mv 141 10,bi 142 .add 140 141,ia 143 1 139 142,ld 144 143,bc 145 .lss 144 0])
 (.cond (.tmp 145)
 (.seq (.reg [mv 146 14,bc 147 .sub 146 1,mv 14 147])
 (.seq (.reg [mc 19 0])
 (.seq (.seq (.reg [mc 20 0])
 (.block 6 (.loop A.lb160_0)))
 (.reg [mv 175 11,mv 176 13,mv 177 10,bi 178 .add 176 177,mv 179 11,mv 180 13,mv 181 10,bi 182 .add 180 181,ia 183 1 179 182,ld 184 183,mv 185 19,bi 186 .add 184 185,ia 187 1 175 178,so 187 186]))))
 (.skip)))
 (.reg [mv 188 12,mv 189 13,mv 190 14,ia 191 1 188 189,so 191 190])))))))
 (.reg [mv 84 13,bc 85 .sub 84 1,mv 13 85]))
def A.lb160_3:MCode:=.seq (.seq (.reg [mv 63 11,ln 64 63,mv 65 0,ln 66 65,bc 67 .add 66 1,bi 68 .lss 64 67])
 (.cond (.tmp 68)
 (.skip)
 (.exit 0)))
 (.block 1 (.reg [mv 69 11,⟨(some 70),.bslice 3 1 1 [(.int .i64 0)] [(0,1,(.const (.int .i64 0)))],none⟩,⟨(some 71),.append 1 8 3 [(.int .i64 0)] (.tmp 69) (.tmp 70),none⟩,mv 11 71]))
def A.b160:MCode:=.seq (.reg [⟨(some 4),.mov (.const .nilslice),none⟩,⟨(some 5),.mov (.const .nilslice),none⟩])
 (.seq (.seq (.reg [mv 24 0,mv 25 1,⟨(some 26),.call (.const (.func 197 [] [])) [(.tmp 24),(.tmp 25)],none⟩,bc 27 .lss 26 0])
 (.cond (.tmp 27)
 (.seq (.reg [mv 28 0,⟨(some 4),.mov (.const .nilslice),none⟩,mv 5 28])
 (.ret))
 (.skip)))
 (.seq (.seq (.reg [mv 29 1,ln 30 29,⟨(some 31),.bin .eql (.prim .int) true (.tmp 30) (.const (.int .i64 1)),none⟩])
 (.cond (.tmp 31)
 (.seq (.reg [mv 33 0,mv 34 1,⟨(some 35),.iaddrSl 1 (.tmp 34) (.const (.int .i64 0)),none⟩,ld 36 35,⟨(some 37),.call (.const (.func 198 [] [])) [(.tmp 33),(.tmp 36)],none⟩,mv 32 37,xt 38 32 0,xt 39 32 1,mv 6 38,mv 7 39])
 (.seq (.reg [mv 40 6,mv 41 7,⟨(some 42),.bslice 3 1 1 [(.int .i64 0)] [(0,1,(.tmp 41))],none⟩,⟨(some 43),.call (.const (.func 199 [] [])) [(.tmp 42)],none⟩,mv 4 40,mv 5 43])
 (.ret)))
 (.skip)))
 (.seq (.reg [mv 44 1,mv 45 1,ln 46 45,bc 47 .sub 46 1,ia 48 1 44 47,ld 49 48,bc 50 .add 49 1,⟨(some 51),.bin .quo (.node []) false (.const (.int .i64 1000000000)) (.tmp 50),none⟩,⟨(some 52),.bslice 3 1 1 [(.int .i64 0)] [(0,1,(.tmp 51))],none⟩,mv 8 52])
 (.seq (.reg [mv 53 1,mv 54 8,⟨(some 55),.call (.const (.func 200 [] [])) [(.tmp 53),(.tmp 54)],none⟩,mv 9 55])
 (.seq (.reg [mv 56 9,ln 57 56,mv 10 57])
 (.seq (.reg [⟨(some 58),.bslice 3 1 0 [] [],none⟩,mv 59 0,mv 60 8,⟨(some 61),.call (.const (.func 200 [] [])) [(.tmp 59),(.tmp 60)],none⟩,⟨(some 62),.append 1 8 3 [(.int .i64 0)] (.tmp 58) (.tmp 61),none⟩,mv 11 62])
 (.seq (.block 0 (.loop A.lb160_3))
 (.seq (.reg [mv 72 11,ln 73 72,mv 74 10,bi 75 .sub 73 74,⟨(some 76),.mkslice 3 1 8 [(.int .i64 0)] (.tmp 75) (.tmp 75),none⟩,mv 12 76])
 (.seq (.seq (.reg [mv 77 11,ln 78 77,mv 79 10,bi 80 .sub 78 79,bc 81 .sub 80 1,mv 13 81])
 (.block 2 (.loop A.lb160_2)))
 (.seq (.regD [mv 193 11,mv 194 10,⟨(some 195),.sliceSl 1 (.tmp 193) none (some (.tmp 194)) none,none⟩,⟨(some 196),.call (.const (.func 199 [] [])) [(.tmp 195)],none⟩,mv 197 8,⟨(some 198),.iaddrSl 1 (.tmp 197) (.const (.int .i64 0)),none⟩,ld 199 198,⟨(some 200),.call (.const (.func 198 [] [])) [(.tmp 196),(.tmp 199)],none⟩,mv 192 200,xt 201 192 0,xt 202 192 1,mv 22 201,mv 23 202] [0,0,3,7,0,16,48,127,255,511,511,1023,4095])
 (.seq (.reg [mv 203 12,⟨(some 204),.call (.const (.func 199 [] [])) [(.tmp 203)],none⟩,mv 205 22,mv 4 204,mv 5 205])
 (.ret))))))))))))
theorem A.c160:cFunc Tryz.prog 160=some ⟨206,[.tmp 4,.tmp 5],A.b160⟩:=by kernel_rfl
def A.k160{K Q f c args st}:=@A.kk 160 _ _ _ A.c160 rfl K Q f c args st
structure DvS (N:Nat) (h2:T O) (n2 iu iq n:Nat) (U Q:List Int) (st:St):Prop where
 w:oldIds N st.w=[]
 keep:Keeps h2 n2 st.h n
 n:st.n=n
 ru:st.h.get iu=some (.cells (dI U) 3 true)
 rq:st.h.get iq=some (.cells (dI Q) 3 true)
structure DvR (r0:T V) (v:V) (iu lu L j:Nat):Prop where
 r9:r0.get 9=some v
 r10:r0.get 10=some (.int .i64 L)
 r11:r0.get 11=some (.slice iu 0 lu none 1)
 r13:r0.get 13=some (.int .i64 j)
structure SbR (N:Nat) (h2:T O) (n2 iu iq n:Nat) (U Q Y:List Int) (L j:Nat) (t:Int) (m:Nat) (r:T V) (st:St):Prop where
 ex:∃i U' c,i+m=L∧r.get 16=some (.int .i64 i)∧r.get 15=some (.int .i64 c)∧0≤c∧c≤1000000000∧DvS N h2 n2 iu iq n U' Q st∧U'.length=U.length∧(∀s,(s<j∨j+i≤s)→U'[s]?=U[s]?)∧Di U'∧vI U'-pI (j+i)*c=vI U-pI j*(t*vI (Y.take i))
theorem sub_loop{N:Nat}{h2:T O}{n2 iu iq n:Nat}{U Q Y:List Int}{L j:Nat}{t:Int}{v:V}{r0:T V}(hv:Sl h2 n2 v (dI Y))(hY:Y.length=L)(dY:Di Y)(hjl:j+L<U.length)(hul:U.length<1099511627776)(R:DvR r0 v iu U.length L j)(r14:r0.get 14=some (.int .i64 t))(t0:0≤t)(t1:t≤1000000000)(a1:N≤n2)(a2:n2≤iu)(a3:iu<iq)(a4:iq<n):
  ∀k r st,(∀t,inD [(15,18),(90,125)] t=false→r.get t=r0.get t)→Fx [(15,18),(90,125)] r0 206 ⟨r,206,[]⟩→SbR N h2 n2 iu iq n U Q Y L j t k r st→Code A.C none A.lb160_1 ⟨r,206,[]⟩ st (Rd [(15,18),(90,125)] r0 206 (SbR N h2 n2 iu iq n U Q Y L j t) k (fun e r st=>e=.exit 4∧SbR N h2 n2 iu iq n U Q Y L j t 0 r st)):=by
 rintro m r ⟨H,n1,W⟩ hr hf ⟨i,U',c,hi,h16,h15,c0,c1,⟨hW,hK,hn,ru,rq⟩,hul',hsame,hdi,hval⟩
 simp only at hW hK hn ru rq
 subst hn
 obtain⟨r9,r10,r11,r13⟩:=R
 rw[code_run]
 cases m with
 |zero=>
  have:i=L:=by omega
  subst this
  simp(disch:=first|(simp;done)|omega|rfl) [-getElem?_pos,A.lb160_1,hr,hf,h16,r10]
  exact⟨i,U',c,by omega,by simp[h16],by simp[h15],c0,c1,⟨hW,hK,rfl,ru,rq⟩,hul',hsame,hdi,hval⟩
 |succ m=>
  obtain⟨y,hy⟩:=get_of_lt (l:=Y) (k:=i) (by omega)
  have lv:=hv.len
  rw[dI_length,hY]at lv
  obtain⟨b1,b2,b3,b4,b5,z1,z2,z3,z4⟩:=hv.at (dI_get hy)
  have z3:=(hK.get _ z2).trans z3
  have hyd:=dY.get hy
  obtain⟨o,ho⟩:=get_of_lt (l:=U') (k:=i+j) (by omega)
  have hod:=hdi.get ho
  have hi1:(i:Int)<(L:Int):=by omega
  have hi2:i<L:=by omega
  have p0:0≤t*y:=Int.mul_nonneg t0 hyd.1
  have p1:t*y≤1000000000*999999999:=Int.mul_le_mul t1 (by omega) hyd.1 (by omega)
  have q1:(i:Int)+(j:Int)<(U.length:Int):=by omega
  have q2:i+j<U.length:=by omega
  have q3:(0:Int)≤(i:Int)+(j:Int):=by omega
  have nn:¬iu<N:=by omega
  have w8:=dI_length U'
  have hsu:=vI_set ho
  have hty:=vI_take_succ hy
  have hp:=pI_add i j
  have hps:=pI_succ (j+i)
  generalize hP:t*y=P at*
  have b1':wrapF .i64 P=P:=wrapF_i64 (by omega) (by omega)
  have b2':wrapF .i64 (P+c)=P+c:=wrapF_i64 (by omega) (by omega)
  have t1':(P+c).tmod 1000000000=(P+c)%1000000000:=Int.tmod_eq_emod_of_nonneg (by omega)
  have t2':(P+c).tdiv 1000000000=(P+c)/1000000000:=Int.tdiv_eq_ediv_of_nonneg (by omega)
  have hm:=Int.mul_ediv_add_emod (P+c) 1000000000
  have e0:=Int.emod_nonneg (P+c) (b:=1000000000) (by decide)
  have e1:=Int.emod_lt_of_pos (P+c) (b:=1000000000) (by decide)
  have key:∀(x' c':Int),x'-1000000000*c'=o-(P+c)→vI (U'.set (i+j) x')-pI (j+(i+1))*c'=vI U-pI j*(t*vI (Y.take (i+1))):=by
   intro x' c' hx
   rw[hsu,hty,show j+(i+1)=j+i+1 by omega,hps,show i+j=j+i by omega]
   have h3:vI U'=vI U-pI j*(t*vI (Y.take i))+pI (j+i)*c:=by omega
   have h4:x'=o-(P+c)+1000000000*c':=by omega
   rw[h3,h4,show j+i=i+j by omega,hp,←hP]
   grind
  have same:∀(x':Int) (s:Nat),(s<j∨j+(i+1)≤s)→(U'.set (i+j) x')[s]?=U[s]?:=by
   intro x' s hs
   rw[List.getElem?_set_ne (by omega)]
   exact hsame s (by omega)
  generalize (P+c)/1000000000=D at*
  generalize (P+c)%1000000000=M at*
  have b3':wrapF .i64 D=D:=wrapF_i64 (by omega) (by omega)
  have b4':wrapF .i64 (o-M)=o-M:=wrapF_i64 (by omega) (by omega)
  have d4:b1<n1:=by have:=hK.le;omega
  have d5:¬iq=iu:=by omega
  by_cases hneg:o-M<0
  ·have b5':wrapF .i64 (o-M+1000000000)=o-M+1000000000:=wrapF_i64 (by omega) (by omega)
   have b6':wrapF .i64 (D+1)=D+1:=wrapF_i64 (by omega) (by omega)
   have w7:=dI_set (l:=U') (k:=i+j) (v:=o-M+1000000000) (by omega)
   simp(disch:=first|(simp;done)|omega|rfl) [-getElem?_pos,A.lb160_1,hr,hf,h16,h15,r9,r10,r11,r13,r14,hi1,hi2,lv,q1,q2,q3,ru,dI_get ho,z1,z2,z3,z4,hP,b1',b2',b3',b4',b5',b6',t1',t2',hneg,w7]
   refine⟨m,by omega,⟨i+1,U'.set (i+j) (o-M+1000000000),D+1,by omega,by simp,by simp,by omega,by omega,⟨by simp[oldIds,hW,nn],hK.set (by omega),rfl,by simp,by simp[d5,rq]⟩,by simp[hul'],same _,hdi.set (by omega) (by omega),key _ _ (by omega)⟩⟩
  ·have w7:=dI_set (l:=U') (k:=i+j) (v:=o-M) (by omega)
   simp(disch:=first|(simp;done)|omega|rfl) [-getElem?_pos,A.lb160_1,hr,hf,h16,h15,r9,r10,r11,r13,r14,hi1,hi2,lv,q1,q2,q3,ru,dI_get ho,z1,z2,z3,z4,hP,b1',b2',b3',b4',t1',t2',hneg,w7]
   refine⟨m,by omega,⟨i+1,U'.set (i+j) (o-M),D,by omega,by simp,by simp,by omega,by omega,⟨by simp[oldIds,hW,nn],hK.set (by omega),rfl,by simp,by simp[d5,rq]⟩,by simp[hul'],same _,hdi.set (by omega) (by omega),key _ _ (by omega)⟩⟩
structure AbR (N:Nat) (h2:T O) (n2 iu iq n:Nat) (U Q Y:List Int) (L j:Nat) (m:Nat) (r:T V) (st:St):Prop where
 ex:∃i U' c,i+m=L∧r.get 20=some (.int .i64 i)∧r.get 19=some (.int .i64 c)∧0≤c∧c≤1∧DvS N h2 n2 iu iq n U' Q st∧U'.length=U.length∧(∀s,(s<j∨j+i≤s)→U'[s]?=U[s]?)∧(∀(s:Nat) (d:Int),s≠j+L→U'[s]?=some d→0≤d∧d<1000000000)∧vI U'+pI (j+i)*c=vI U+pI j*vI (Y.take i)
theorem add_loop{N:Nat}{h2:T O}{n2 iu iq n:Nat}{U Q Y:List Int}{L j:Nat}{v:V}{r0:T V}(hv:Sl h2 n2 v (dI Y))(hY:Y.length=L)(dY:Di Y)(hjl:j+L<U.length)(hul:U.length<1099511627776)(R:DvR r0 v iu U.length L j)(a1:N≤n2)(a2:n2≤iu)(a3:iu<iq)(a4:iq<n):
  ∀k r st,(∀t,inD [(19,21),(148,174)] t=false→r.get t=r0.get t)→Fx [(19,21),(148,174)] r0 206 ⟨r,206,[]⟩→AbR N h2 n2 iu iq n U Q Y L j k r st→Code A.C none A.lb160_0 ⟨r,206,[]⟩ st (Rd [(19,21),(148,174)] r0 206 (AbR N h2 n2 iu iq n U Q Y L j) k (fun e r st=>e=.exit 6∧AbR N h2 n2 iu iq n U Q Y L j 0 r st)):=by
 rintro m r ⟨H,n1,W⟩ hr hf ⟨i,U',c,hi,h20,h19,c0,c1,⟨hW,hK,hn,ru,rq⟩,hul',hsame,hdi,hval⟩
 simp only at hW hK hn ru rq
 subst hn
 obtain⟨r9,r10,r11,r13⟩:=R
 rw[code_run]
 cases m with
 |zero=>
  have:i=L:=by omega
  subst this
  simp(disch:=first|(simp;done)|omega|rfl) [-getElem?_pos,A.lb160_0,hr,hf,h20,r10]
  exact⟨i,U',c,by omega,by simp[h20],by simp[h19],c0,c1,⟨hW,hK,rfl,ru,rq⟩,hul',hsame,hdi,hval⟩
 |succ m=>
  obtain⟨y,hy⟩:=get_of_lt (l:=Y) (k:=i) (by omega)
  have lv:=hv.len
  rw[dI_length,hY]at lv
  obtain⟨b1,b2,b3,b4,b5,z1,z2,z3,z4⟩:=hv.at (dI_get hy)
  have z3:=(hK.get _ z2).trans z3
  have hyd:=dY.get hy
  obtain⟨o,ho⟩:=get_of_lt (l:=U') (k:=i+j) (by omega)
  have hod:=hdi _ _ (by omega) ho
  have hi1:(i:Int)<(L:Int):=by omega
  have hi2:i<L:=by omega
  have q1:(i:Int)+(j:Int)<(U.length:Int):=by omega
  have q2:i+j<U.length:=by omega
  have q3:(0:Int)≤(i:Int)+(j:Int):=by omega
  have nn:¬iu<N:=by omega
  have w8:=dI_length U'
  have hsu:=vI_set ho
  have hty:=vI_take_succ hy
  have hp:=pI_add i j
  have hps:=pI_succ (j+i)
  have b1':wrapF .i64 (o+y)=o+y:=wrapF_i64 (by omega) (by omega)
  have b2':wrapF .i64 (o+y+c)=o+y+c:=wrapF_i64 (by omega) (by omega)
  have t1':(o+y+c).tmod 1000000000=(o+y+c)%1000000000:=Int.tmod_eq_emod_of_nonneg (by omega)
  have t2':(o+y+c).tdiv 1000000000=(o+y+c)/1000000000:=Int.tdiv_eq_ediv_of_nonneg (by omega)
  have hm:=Int.mul_ediv_add_emod (o+y+c) 1000000000
  have e0:=Int.emod_nonneg (o+y+c) (b:=1000000000) (by decide)
  have e1:=Int.emod_lt_of_pos (o+y+c) (b:=1000000000) (by decide)
  have w7:=dI_set (l:=U') (k:=i+j) (v:=(o+y+c)%1000000000) (by omega)
  have d4:b1<n1:=by have:=hK.le;omega
  have d5:¬iq=iu:=by omega
  have d6:iu<n1:=by omega
  have b3':wrapF .i64 ((o+y+c)/1000000000)=(o+y+c)/1000000000:=wrapF_i64 (by omega) (by omega)
  simp(disch:=first|(simp;done)|omega|rfl) [-getElem?_pos,A.lb160_0,hr,hf,h20,h19,r9,r10,r11,r13,hi1,hi2,lv,q1,q2,q3,ru,dI_get ho,z1,z2,z3,z4,b1',b2',b3',t1',t2',w7,d4,d6]
  generalize (o+y+c)/1000000000=D at*
  generalize (o+y+c)%1000000000=M at*
  refine⟨m,by omega,⟨i+1,U'.set (i+j) M,D,by omega,by simp,by simp,by omega,by omega,⟨by simp[oldIds,hW,nn],hK.set (by omega),rfl,by simp,by simp[d5,rq]⟩,by simp[hul'],fun s hs=>?_,fun s d hs hd=>?_,?_⟩⟩
  ·rw[List.getElem?_set_ne (by omega)]
   exact hsame s (by omega)
  ·by_cases hsi:s=i+j
   ·subst hsi
    rw[List.getElem?_set_self (by omega)]at hd
    simp at hd
    omega
   ·rw[List.getElem?_set_ne (fun h=>hsi h.symm)]at hd
    exact hdi s d hs hd
  ·rw[hsu,hty,show j+(i+1)=j+i+1 by omega,hps,show i+j=j+i by omega]
   have h3:vI U'=vI U+pI j*vI (Y.take i)-pI (j+i)*c:=by omega
   have h4:M=o+y+c-1000000000*D:=by omega
   rw[h3,h4,show j+i=i+j by omega,hp]
   grind
end Go.Mx
namespace Go.Mx
open Go Go.Proofs
set_option maxRecDepth 1000000
theorem mem_get{l:List Int}{d:Int}(h:d∈l):∃s:Nat,l[s]?=some d:=List.getElem?_of_mem h
theorem di_of{l:List Int}(h:∀(s:Nat) (d:Int),l[s]?=some d→0≤d∧d<1000000000):Di l:=fun d hd=>by
 obtain⟨s,hs⟩:=mem_get hd
 exact h s d hs
theorem drop_val{U U2:List Int}{j:Nat}{X:Int}(hj:j≤U.length)(hl:U2.length=U.length)(hs:∀s,s<j→U2[s]?=U[s]?)(hv:vI U2=vI U-pI j*X):vI (U2.drop j)=vI (U.drop j)-X:=by
 have h1:=vI_split U j hj
 have h2:=vI_split U2 j (by omega)
 have h3:U2.take j=U.take j:=by
  apply List.ext_getElem?
  intro s
  rw[List.getElem?_take,List.getElem?_take]
  by_cases h:s<j
  ·rw[if_pos h,if_pos h];exact hs s h
  ·rw[if_neg h,if_neg h]
 rw[h3]at h2
 have h4:pI j*vI (U2.drop j)=pI j*(vI (U.drop j)-X):=by
  have:pI j*(vI (U.drop j)-X)=pI j*vI (U.drop j)-pI j*X:=by grind
  omega
 exact Int.eq_of_mul_eq_mul_left (Int.ne_of_gt (pI_pos j)) h4
theorem top_of{U:List Int}{j L:Nat}{tt:Int}(hd:∀(s:Nat) (d:Int),s<j+L→U[s]?=some d→0≤d∧d<1000000000)(ht:U[j+L]?=some tt)(hz:∀s,j+L<s→s<U.length→U[s]?=some 0)(hlt:vI (U.drop j)<pI L):(0≤vI (U.drop j)→tt=0)∧(vI (U.drop j)<0→tt<0):=by
 refine top_zero (w:=U.drop j) (n:=L) ?_ (by rw[List.getElem?_drop];exact ht) ?_ hlt
 ·refine di_of fun s d hs=>?_
  by_cases h:s<L
  ·rw[List.getElem?_take,if_pos h,List.getElem?_drop]at hs
   exact hd (j+s) d (by omega) hs
  ·rw[List.getElem?_take,if_neg h]at hs;cases hs
 ·intro s h1 h2
  rw[List.getElem?_drop]
  exact hz (j+s) (by omega) (by simp at h2;omega)
structure OuI (N:Nat) (h2:T O) (n2 iu iq n lu L:Nat) (A0:Int) (Y:List Int) (m:Nat) (r:T V) (st:St):Prop where
 ex:∃U Q,DvS N h2 n2 iu iq n U Q st∧r.get 13=some (.int .i64 ((m:Int)-1))∧U.length=lu∧Q.length=lu-L∧m≤lu-L∧Di U∧Di Q∧(∀s,m+L≤s→s<lu→U[s]?=some 0)∧vI (U.drop m)<vI Y∧(∀s,s<m→Q[s]?=some 0)∧vI U+vI Y*vI Q=A0
theorem out_loop{N:Nat}{h2:T O}{n2 iu iq n lu k:Nat}{A0 v1:Int}{Y:List Int}{v:V}{r0:T V}(hv:Sl h2 n2 v (dI Y))(hY:Y.length=k+2)(dY:Di Y)(hv1:Y[k+1]?=some v1)(h5:500000000≤v1)(hlu:k+2<lu)(hul:lu<1099511627776)(r9:r0.get 9=some v)(r10:r0.get 10=some (.int .i64 (k+2:Nat)))(r11:r0.get 11=some (.slice iu 0 lu none 1))(r12:r0.get 12=some (.slice iq 0 (lu-(k+2)) (some (lu-(k+2))) 1))(a1:N≤n2)(a2:n2≤iu)(a3:iu<iq)(a4:iq<n):
  ∀m r st,(∀t,inD [(13,21),(82,191)] t=false→r.get t=r0.get t)→Fx [(13,21),(82,191)] r0 206 ⟨r,206,[]⟩→OuI N h2 n2 iu iq n lu (k+2) A0 Y m r st→Code A.C none A.lb160_2 ⟨r,206,[]⟩ st (Rd [(13,21),(82,191)] r0 206 (OuI N h2 n2 iu iq n lu (k+2) A0 Y) m (fun e r st=>e=.exit 2∧OuI N h2 n2 iu iq n lu (k+2) A0 Y 0 r st)):=by
 rintro m r ⟨H,n1,W⟩ hr hf ⟨U,Q,⟨hW,hK,hn,ru,rq⟩,r13,hul',hql,hm,dU,dQ,hz,hdr,hqz,hval⟩
 simp only at hW hK hn ru rq
 subst hn
 rw[code_run]
 cases m with
 |zero=>
  simp(disch:=first|(simp;done)|omega|rfl) [-getElem?_pos,A.lb160_2,hr,hf,r13]
  exact⟨U,Q,⟨hW,hK,rfl,ru,rq⟩,by simp[r13],hul',hql,hm,dU,dQ,hz,hdr,hqz,hval⟩
 |succ j=>
  have hj1:(((j+1:Nat):Int)-1)=(j:Int):=by omega
  rw[hj1]at r13
  have hj0:(0:Int)≤(j:Int):=by omega
  obtain⟨v2,hv2⟩:=get_of_lt (l:=Y) (k:=k) (by omega)
  obtain⟨d1,e1⟩:=get_of_lt (l:=U) (k:=j+k) (by omega)
  obtain⟨d2,e2⟩:=get_of_lt (l:=U) (k:=j+k+1) (by omega)
  obtain⟨d3,e3⟩:=get_of_lt (l:=U) (k:=j+k+2) (by omega)
  obtain⟨x0,hx0⟩:=get_of_lt (l:=U) (k:=j) (by omega)
  have hWt:=vI_top3 (w:=U.drop j) (k:=k) (a:=d1) (c:=d2) (d:=d3) (by rw[List.getElem?_drop];exact e1) (by rw[List.getElem?_drop,←Nat.add_assoc];exact e2) (by rw[List.getElem?_drop,←Nat.add_assoc];exact e3) (fun t h1 h2=>by rw[List.getElem?_drop];exact hz _ (by omega) (by simp at h2;omega))
  have hDt:=vI_top2 hv2 hv1 hY
  have hWd:vI (U.drop j)<1000000000*vI Y:=by
   rw[get_drop_cons hx0,vI]
   have:=dU.get hx0
   omega
  have hUk:=vI_lt ((dU.drop j).take k)
  rw[List.length_take,List.length_drop,Nat.min_eq_left (by omega)]at hUk
  have hVk:=vI_lt (dY.take k)
  rw[List.length_take,Nat.min_eq_left (by omega)]at hVk
  obtain⟨t,hg,t0,t1,hlo,hhi⟩:=guess_eq (w:=W) (Sl.row (cp:=none) (L:=lu) (show iu<n1 by omega) ru (by simp[hul']) (fun k hk=>by cases hk)) (hv.keep hK) hY (by omega) e1 e2 e3 hv2 hv1 (dU.get e1) (dU.get e2) (dU.get e3) ⟨h5,(dY.get hv1).2⟩ (dY.get hv2) (pI_pos k) (vI_nn ((dU.drop j).take k)) hUk (vI_nn (dY.take k)) hVk hWt hDt hWd
  have hVl:=vI_lt dY
  rw[hY]at hVl
  have hVp:0<vI Y:=by have:=vI_nn (dU.drop (j+1));omega
  simp(disch:=first|(simp;done)|omega|rfl) [-getElem?_pos,A.lb160_2,hr,hf,r13,hj0,r9,r10,r11,r12,hg]
  refine run_loopD [(15,18),(90,125)] (fun e r st=>e=.exit 4∧SbR N h2 n2 iu iq n1 U Q Y (k+2) j t 0 r st) (SbR N h2 n2 iu iq n1 U Q Y (k+2) j t) (k+2) ?_ ?_ ?_
  ·exact⟨0,U,0,by omega,by simp,by simp,by omega,by omega,⟨hW,hK,rfl,ru,rq⟩,rfl,fun _ _=>rfl,dU,by simp[vI]⟩
  ·exact sub_loop hv hY dY (by omega) (by omega) ⟨by simp[hr,r9],by simp[hr,r10],by simp[hr,r11,hul'],by simp[hr,r13]⟩ (by simp) t0 t1 a1 a2 a3 a4
  ·rintro _ r2 ⟨H2,n3,W2⟩ hr2 ⟨rfl,i,U',c,hi,h16,h15,c0,c1,⟨hW2,hK2,hn2,ru2,rq2⟩,hul2,hsame,hdi2,hval2⟩
   simp only at hW2 hK2 hn2 ru2 rq2
   subst hn2
   obtain rfl:i=k+2:=by omega
   have hfi:=hf.inner (D':=[(15,18),(90,125)]) rfl (by simp) hr2
   rw[←hY,List.take_length,hY]at hval2
   have e3':U'[j+(k+2)]?=some d3:=by rw[hsame _ (.inr (Nat.le_refl _))];rw[←Nat.add_assoc];exact e3
   have hd3:=dU.get e3
   have q1:(j:Int)+((k:Int)+2)<(lu:Int):=by omega
   have q2:j+(k+2)<lu:=by omega
   have q3:(0:Int)≤(j:Int)+((k:Int)+2):=by omega
   have q4:((j:Int)+((k:Int)+2)).toNat=j+(k+2):=by omega
   have w8:=dI_length U'
   have b1':wrapF .i64 (d3-c)=d3-c:=wrapF_i64 (by omega) (by omega)
   have w7:=dI_set (l:=U') (k:=j+(k+2)) (v:=d3-c) (by omega)
   have nn:¬iu<N:=by omega
   have d5:¬iq=iu:=by omega
   have d6:¬iu=iq:=by omega
   have nq:¬iq<N:=by omega
   have v2e:vI (U'.set (j+(k+2)) (d3-c))=vI U-pI j*(t*vI Y):=by
    rw[vI_set e3']
    have:pI (j+(k+2))*(d3-c-d3)= -(pI (j+(k+2))*c):=by grind
    omega
   have hs2:∀s,s<j→(U'.set (j+(k+2)) (d3-c))[s]?=U[s]?:=fun s hs=>by
    rw[List.getElem?_set_ne (by omega)];exact hsame s (.inl hs)
   have hz2:∀s,j+(k+2)<s→s<lu→(U'.set (j+(k+2)) (d3-c))[s]?=some 0:=fun s h1 h2=>by
    rw[List.getElem?_set_ne (by omega),hsame s (.inr (by omega))];exact hz s (by omega) h2
   have hdv:=drop_val (by omega) (by simp[hul2]) hs2 v2e
   have htop:(U'.set (j+(k+2)) (d3-c))[j+(k+2)]?=some (d3-c):=List.getElem?_set_self (by omega)
   have hlt2:vI ((U'.set (j+(k+2)) (d3-c)).drop j)<vI Y:=by
    rw[hdv]
    have:(t+1)*vI Y=t*vI Y+vI Y:=by grind
    omega
   have hto:=top_of (U:=U'.set (j+(k+2)) (d3-c)) (fun s d hs hd=>by
    rw[List.getElem?_set_ne (by omega)]at hd;exact hdi2.get hd) htop (fun s h1 h2=>hz2 s h1 (by simp at h2;omega)) (by omega)
   have qj1:(j:Int)<((lu-(k+2):Nat):Int):=by omega
   have qj2:j<lu-(k+2):=by omega
   have wq8:=dI_length Q
   by_cases hneg:d3-c<0
   ·have t1w:wrapF .i64 (t-1)=t-1:=wrapF_i64 (by omega) (by omega)
    simp(disch:=first|(simp;done)|omega|rfl) [-getElem?_pos,hr,hr2,hfi,h15,r9,r10,r11,r12,r13,q1,q2,q3,q4,ru2,dI_get e3',b1',w7,dI_get htop,hneg,t1w]
    generalize hU2:U'.set (j+(k+2)) (d3-c)=U2 at*
    have hl2:U2.length=lu:=by rw[←hU2];simp[hul2,hul']
    have hWlt:vI (U2.drop j)<0:=by
     apply Int.lt_of_not_ge;intro hc
     have:=hto.1 hc
     omega
    have hdig:∀(s:Nat) (d:Int),s≠j+(k+2)→U2[s]?=some d→0≤d∧d<1000000000:=fun s d hs hd=>by
     rw[←hU2,List.getElem?_set_ne (by omega)]at hd;exact hdi2.get hd
    refine run_loopD [(19,21),(148,174)] (fun e r st=>e=.exit 6∧AbR N h2 n2 iu iq n3 U2 Q Y (k+2) j 0 r st) (AbR N h2 n2 iu iq n3 U2 Q Y (k+2) j) (k+2) ?_ ?_ ?_
    ·exact⟨0,U2,0,by omega,by simp,by simp,by omega,by omega,⟨by simp[oldIds,hW2,nn],hK2.set (by omega),rfl,by simp,by simp[d5,rq2]⟩,rfl,fun _ _=>rfl,hdig,by simp[vI]⟩
    ·exact add_loop hv hY dY (by omega) (by omega) ⟨by simp[hr,hr2,r9],by simp[hr,hr2,r10],by simp[hr,hr2,r11,hl2],by simp[hr,hr2,r13]⟩ a1 a2 a3 a4
    ·rintro _ r4 ⟨H4,n4,W4⟩ hr4 ⟨rfl,i4,U3,c4,hi4,h20,h19,c40,c41,⟨hW4,hK4,hn4,ru4,rq4⟩,hul4,hsame4,hdi4,hval4⟩
     simp only at hW4 hK4 hn4 ru4 rq4
     subst hn4
     obtain rfl:i4=k+2:=by omega
     have hfi4:=hfi.inner (D':=[(19,21),(148,174)]) rfl (by simp) hr4
     rw[←hY,List.take_length,hY]at hval4
     have e4:U3[j+(k+2)]?=some (d3-c):=by rw[hsame4 _ (.inr (Nat.le_refl _))];exact htop
     have x8:=dI_length U3
     have b4':wrapF .i64 (d3-c+c4)=d3-c+c4:=wrapF_i64 (by omega) (by omega)
     have x7:=dI_set (l:=U3) (k:=j+(k+2)) (v:=d3-c+c4) (by omega)
     have v4e:vI (U3.set (j+(k+2)) (d3-c+c4))=vI U-pI j*((t-1)*vI Y):=by
      rw[vI_set e4]
      have x1:pI (j+(k+2))*(d3-c+c4-(d3-c))=pI (j+(k+2))*c4:=by grind
      have x2:pI j*((t-1)*vI Y)=pI j*(t*vI Y)-pI j*vI Y:=by grind
      omega
     have hs4:∀s,s<j→(U3.set (j+(k+2)) (d3-c+c4))[s]?=U[s]?:=fun s hs=>by
      rw[List.getElem?_set_ne (by omega),hsame4 s (.inl hs)];exact hs2 s hs
     have hz4:∀s,j+(k+2)<s→s<lu→(U3.set (j+(k+2)) (d3-c+c4))[s]?=some 0:=fun s h1 h2=>by
      rw[List.getElem?_set_ne (by omega),hsame4 s (.inr (by omega))];exact hz2 s h1 h2
     have hdv4:=drop_val (by omega) (by simp[hul4,hl2,hul']) hs4 v4e
     have htop4:(U3.set (j+(k+2)) (d3-c+c4))[j+(k+2)]?=some (d3-c+c4):=List.getElem?_set_self (by omega)
     have xt:(t-1)*vI Y=t*vI Y-vI Y:=by grind
     have hlt4:vI ((U3.set (j+(k+2)) (d3-c+c4)).drop j)<vI Y:=by
      rw[hdv4];omega
     have hge4:0≤vI ((U3.set (j+(k+2)) (d3-c+c4)).drop j):=by
      rw[hdv4];omega
     have hto4:=top_of (U:=U3.set (j+(k+2)) (d3-c+c4)) (fun s d hs hd=>by
      rw[List.getElem?_set_ne (by omega)]at hd;exact hdi4 s d (by omega) hd) htop4 (fun s h1 h2=>hz4 s h1 (by simp at h2;omega)) (by omega)
     have hz0:=hto4.1 hge4
     have w9:=dI_set (l:=Q) (k:=j) (v:=t-1) (by omega)
     have hq0:=hqz j (by omega)
     have tpos:1≤t:=by
      apply Int.le_of_not_gt;intro hc
      have:t=0:=by omega
      rw[this]at hdv
      have:=vI_nn (dU.drop j)
      omega
     simp(disch:=first|(simp;done)|omega|rfl) [-getElem?_pos,hr,hr2,hr4,hfi4,h19,r9,r10,r11,r12,r13,q1,q2,q3,q4,ru4,rq4,dI_get e4,b4',x7,qj1,qj2,d5,d6,w9]
     refine⟨j,by omega,⟨U3.set (j+(k+2)) (d3-c+c4),Q.set j (t-1),⟨by simp[oldIds,hW4,nn,nq],?_,rfl,by simp[d6],by simp⟩,by simp,by simp[hul4,hl2],by simp[hql],by omega,?_,dQ.set (by omega) (by omega),?_,?_,?_,?_⟩⟩
     ·exact(hK4.set (by omega)).set (by omega)
     ·refine di_of fun s d hd=>?_
      by_cases hs:s=j+(k+2)
      ·subst hs
       rw[htop4,hz0]at hd
       simp at hd
       omega
      ·rw[List.getElem?_set_ne (fun h=>hs h.symm)]at hd
       exact hdi4 s d hs hd
     ·intro s h1 h2
      by_cases hs:s=j+(k+2)
      ·rw[hs,htop4,hz0]
      ·exact hz4 s (by omega) h2
     ·exact hlt4
     ·intro s hs
      rw[List.getElem?_set_ne (by omega)];exact hqz s (by omega)
     ·rw[v4e,vI_set hq0,←hval]
      grind
   ·have hnn:0≤vI ((U'.set (j+(k+2)) (d3-c)).drop j):=by
     apply Int.le_of_not_gt;intro hc;exact hneg (hto.2 hc)
    have hz0:=hto.1 hnn
    have w9:=dI_set (l:=Q) (k:=j) (v:=t) (by omega)
    have hq0:=hqz j (by omega)
    rw[hdv]at hnn hlt2
    have tlt:t<1000000000:=by
     apply Int.lt_of_not_ge;intro hc
     have:=Int.mul_le_mul_of_nonneg_right hc (Int.le_of_lt hVp)
     omega
    simp(disch:=first|(simp;done)|omega|rfl) [-getElem?_pos,hr,hr2,hfi,h15,r9,r10,r11,r12,r13,q1,q2,q3,q4,ru2,rq2,dI_get e3',b1',w7,dI_get htop,hneg,qj1,qj2,d5,d6,w9]
    refine⟨j,by omega,⟨U'.set (j+(k+2)) (d3-c),Q.set j t,⟨by simp[oldIds,hW2,nn,nq],?_,rfl,by simp[d6],by simp⟩,by simp,by simp[hul2,hul'],by simp[hql],by omega,?_,dQ.set t0 tlt,?_,?_,?_,?_⟩⟩
    ·exact(hK2.set (by omega)).set (by omega)
    ·rw[hz0];exact hdi2.set (by omega) (by omega)
    ·intro s h1 h2
     by_cases hs:s=j+(k+2)
     ·rw[hs,htop,hz0]
     ·exact hz2 s (by omega) h2
    ·rw[hdv];exact hlt2
    ·intro s hs
     rw[List.getElem?_set_ne (by omega)];exact hqz s (by omega)
    ·rw[v2e,vI_set hq0,←hval]
     grind
end Go.Mx
