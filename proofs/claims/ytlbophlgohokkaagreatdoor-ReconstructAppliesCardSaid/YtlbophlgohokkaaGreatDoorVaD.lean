/-
  CheckRow, CheckList, CheckMatrix, CheckModes, CheckOwnModes.
-/
import Derived.Test.YtlbophlgohokkaaGreatDoorVaA
set_option linter.all false
namespace Go.Mx
open Go Go.Proofs
variable {N:Nat} {h:T O} {l:List (List Str)} {v:V}
set_option maxRecDepth 1000000
def A.lb92_0:Zae:=.seq (sr [mv 5 3,mv 6 0,ln 7 6,bi 8 .lss 5 7]
 (cd 8
 (.skip)
 (.exit 0)))
 (.seq (.block 1 (sr [mv 11 0,mv 12 3,ia 13 1 11 12,ld 14 13,c1 15 93 14,mv 4 15]
 (sr [mv 16 4,ni 17 16 0]
 (cd 17
 (sr [mv 18 4,mv 2 18]
 (.ret))
 (.skip)))))
 (.reg [mv 9 3,bc 10 .add 9 1,mv 3 10]))
def A.b92:Zae:=sr [mc 2 0]
 (.seq (sr [mc 3 0]
 (.block 0 (.loop A.lb92_0)))
 (sr [mc 2 0]
 (.ret)))
theorem A.c92:Zal Tryz.prog 92=some ⟨19,[.tmp 2],A.b92⟩:=by kernel_rfl
def A.k92:=@A.kk 92 _ _ _ A.c92 rfl
def A.b16:Zae:=sr [mc 4 0]
 (.seq (sr [mv 5 0,ln 6 5,mv 7 1,⟨(some 8),.bin .neq (.prim .int) false (.tmp 6) (.tmp 7),none⟩]
 (cd 8
 (sr [mc 4 2]
 (.ret))
 (.skip)))
 (sr [mv 9 0,c1 10 92 9,mv 4 10]
 (.ret)))
theorem A.c16:Zal Tryz.prog 16=some ⟨11,[.tmp 4],A.b16⟩:=by kernel_rfl
def A.k16:=@A.kk 16 _ _ _ A.c16 rfl
def A.lb14_0:Zae:=.seq (sr [mv 31 7,mv 32 0,ln 33 32,bi 34 .lss 31 33]
 (cd 34
 (.skip)
 (.exit 0)))
 (.seq (.block 1 (.seq (.regD [mv 37 0,mv 38 7,ia 39 1 37 38,ld 40 39,mv 41 0,⟨(some 42),.iaddrSl 1 (.tmp 41) (.const (.int .i64 0)),none⟩,ld 43 42,ln 44 43,c2 45 16 40 44,mv 8 45] [0,0,3,7,0,16,48,112,255,511])
 (sr [mv 46 8,ni 47 46 0]
 (cd 47
 (sr [mv 48 8,mv 6 48]
 (.ret))
 (.skip)))))
 (.reg [mv 35 7,bc 36 .add 35 1,mv 7 36]))
def A.b14:Zae:=sr [mc 6 0]
 (.seq (sr [mv 9 0,ln 10 9,ei 11 10 0,mv 12 11,mh 13 0 12,⟨(some 14),.iaddrSl 1 (.tmp 13) (.const (.int .i64 0)),(some (12,false))⟩,⟨(some 15),.load none (.tmp 14),(some (12,false))⟩,⟨(some 16),.len 1 (.tmp 15),(some (12,false))⟩,⟨(some 17),.bin .eql (.prim .int) true (.tmp 16) (.const (.int .i64 0)),(some (12,false))⟩,pt 18 12 17]
 (cd 18
 (sr [mc 6 12]
 (.ret))
 (.skip)))
 (.seq (sr [mv 19 0,ln 20 19,mv 21 1,bi 22 .gtr 20 21,mv 23 22,mh 24 0 23,⟨(some 25),.iaddrSl 1 (.tmp 24) (.const (.int .i64 0)),(some (23,false))⟩,⟨(some 26),.load none (.tmp 25),(some (23,false))⟩,⟨(some 27),.len 1 (.tmp 26),(some (23,false))⟩,mh 28 2 23,⟨(some 29),.bin .gtr (.node []) false (.tmp 27) (.tmp 28),(some (23,false))⟩,pt 30 23 29]
 (cd 30
 (sr [mc 6 5]
 (.ret))
 (.skip)))
 (.seq (sr [mc 7 0]
 (.block 0 (.loop A.lb14_0)))
 (sr [mc 6 0]
 (.ret)))))
theorem A.c14:Zal Tryz.prog 14=some ⟨49,[.tmp 6],A.b14⟩:=by kernel_rfl
def A.k14:=@A.kk 14 _ _ _ A.c14 rfl
def A.lb91_0:Zae:=.seq (sr [mv 13 5,mv 14 0,ln 15 14,bi 16 .lss 13 15]
 (cd 16
 (.skip)
 (.exit 0)))
 (.seq (.block 1 (sr [mv 19 0,mv 20 5,ia 21 1 19 20,ld 22 21,mv 23 1,c2 24 16 22 23,mv 6 24]
 (sr [mv 25 6,ni 26 25 0]
 (cd 26
 (sr [mv 27 6,mv 4 27]
 (.ret))
 (.skip)))))
 (.reg [mv 17 5,bc 18 .add 17 1,mv 5 18]))
def A.b91:Zae:=sr [mc 4 0]
 (.seq (sr [mv 7 0,ln 8 7,ei 9 8 0]
 (cd 9
 (sr [mc 4 12]
 (.ret))
 (.skip)))
 (.seq (sr [mv 10 0,ln 11 10,bc 12 .gtr 11 16]
 (cd 12
 (sr [mc 4 5]
 (.ret))
 (.skip)))
 (.seq (sr [mc 5 0]
 (.block 0 (.loop A.lb91_0)))
 (sr [mc 4 0]
 (.ret)))))
theorem A.c91:Zal Tryz.prog 91=some ⟨28,[.tmp 4],A.b91⟩:=by kernel_rfl
def A.k91:=@A.kk 91 _ _ _ A.c91 rfl
def A.b15:Zae:=sr [mc 2 0]
 (.seq (sr [mv 3 0,ln 4 3,ei 5 4 0]
 (cd 5
 (sr [mc 2 12]
 (.ret))
 (.skip)))
 (.seq (sr [mv 6 0,ln 7 6,bc 8 .gtr 7 16]
 (cd 8
 (sr [mc 2 5]
 (.ret))
 (.skip)))
 (.seq (sr [mv 9 0,⟨(some 10),.iaddrSl 1 (.tmp 9) (.const (.int .i64 0)),none⟩,ld 11 10,ln 12 11,ei 13 12 0]
 (cd 13
 (sr [mc 2 12]
 (.ret))
 (.skip)))
 (.seq (sr [mv 14 0,⟨(some 15),.iaddrSl 1 (.tmp 14) (.const (.int .i64 0)),none⟩,ld 16 15,ln 17 16,bc 18 .gtr 17 16]
 (cd 18
 (sr [mc 2 5]
 (.ret))
 (.skip)))
 (sr [mv 19 0,mv 20 0,⟨(some 21),.iaddrSl 1 (.tmp 20) (.const (.int .i64 0)),none⟩,ld 22 21,ln 23 22,c2 24 91 19 23,mv 2 24]
 (.ret))))))
theorem A.c15:Zal Tryz.prog 15=some ⟨25,[.tmp 2],A.b15⟩:=by kernel_rfl
def A.k15:=@A.kk 15 _ _ _ A.c15 rfl
theorem Ykh{l:List Str}(hs:Sl h N v (strs l))(hl:l.length<100000)(hf0:∀s∈l,s.length≤100000):Fn A.C 92 [v] h N (fun u _ _=>u=.int .i64 (Zak (l.map fun s=>((chkNum s:Nat):Int)))):=by
 intro w
 have hlen:=hs.len
 rw[Zbn]at hlen
 rw[Zab,A.k92 (by simp)]
 simp[A.b92]
 refine Zaj [(2,18)] (fun e r st=>Zaa N st.w=[]∧Keeps h N st.h st.n∧((e=.exit 0∧Zak (l.map fun s=>((chkNum s:Nat):Int))=0)∨(e=.ret∧r.get 2=some (.int .i64 (Zak (l.map fun s=>((chkNum s:Nat):Int))))))) (fun m r st=>Zaa N st.w=[]∧Keeps h N st.h st.n∧∃k,k+m=l.length∧r.get 3=some (.int .i64 k)∧Zak (l.map fun s=>((chkNum s:Nat):Int))=Zak ((l.drop k).map fun s=>((chkNum s:Nat):Int))) l.length ?_ ?_ ?_
 ·exact⟨by simp,Keeps.refl,0,by omega,by simp,by simp⟩
 ·rintro m r ⟨H,n1,W⟩ hr hf ⟨hW,hK,k,hk,h7,hz⟩
  simp only at hW hK
  rw[Zah]
  cases m with
  |zero=>
   obtain rfl:k=l.length:=by omega
   rw[List.drop_length,List.map_nil,Zak]at hz
   simp[A.lb92_0,hr,hf,h7,hlen,hz,hW,hK]
  |succ m=>
   have hlt:k<l.length:=by omega
   obtain⟨s,hc⟩:=Zag hlt
   obtain⟨i,o,cc,e,rw,q1,q2,q3,q4⟩:=(hs.keep hK).at (Zf1 hc)
   rw[Zaq hc,List.map_cons,Zak]at hz
   have hk1:(k:Int)<(l.length:Int):=by omega
   simp[A.lb92_0,hr,h7,hk1,hlen,q1,q3,q4]
   refine Zac (Zqn (hf0 s (List.mem_of_getElem? hc))) ?_
   rintro _ h3 n3 k3 rfl
   have kk:=hK.trans k3
   by_cases h0:chkNum s=0
   ·rw[if_pos (by omega)]at hz
    simp(disch:=first|(simp;done)|omega|rfl) [hf,h7,h0,hW]
    exact⟨m,by omega,kk,k+1,by omega,by simp,by simpa using hz⟩
   ·rw[if_neg (by omega)]at hz
    have h0':¬((chkNum s:Nat):Int)=0:=by omega
    simp[hf,h0,hW,hz]
    exact kk
 ·rintro _ r ⟨H,n1,W⟩ hr ⟨hW,hK,⟨rfl,hz⟩|⟨rfl,h2⟩⟩
  ·simp only at hW hK
   simp[hz,Ret,hW,hK]
  ·simp only at hW hK
   simp[h2,Ret,hW,hK]
def Zbx(l:List Str)(n:Nat):Int:=if l.length=n then Zak (l.map fun s=>((chkNum s:Nat):Int)) else 2
def hdL(l:List (List Str)):Nat:=(l[0]?.getD []).length
def Zhy(l:List (List Str))(r c:Nat):Int:=if l.length=0∨hdL l=0 then 12 else if r<l.length∨c<hdL l then 5 else Zak (l.map fun x=>Zbx x (hdL l))
def Zrz(l:List (List Str))(n:Nat):Int:=if l.length=0 then 12 else if 16<l.length then 5 else Zak (l.map fun x=>Zbx x n)
def Zfc(l:List (List Str)):Int:=if l.length=0 then 12 else if 16<l.length then 5 else if hdL l=0 then 12 else if 16<hdL l then 5 else Zrz l (hdL l)
theorem Zlx{l:List Str}{n:Nat}(hs:Sl h N v (strs l))(hl:l.length<100000)(hf0:∀s∈l,s.length≤100000):Fn A.C 16 [v,.int .i64 n] h N (fun u _ _=>u=.int .i64 (Zbx l n)):=by
 intro w
 have hlen:=hs.len
 rw[Zbn]at hlen
 rw[Zab,A.k16 (by simp)]
 by_cases c:l.length=n
 ·subst c
  simp[A.b16,hlen]
  refine Zac (Ykh hs hl hf0) ?_
  rintro _ H2 n2 k2 rfl
  simp[Ret,Zbx]
  exact k2
 ·have c':¬(l.length:Int)=(n:Int):=by omega
  simp[A.b16,hlen,c',Zbx,c,Ret]
  exact Keeps.refl
theorem Ykq{a b:Nat}(hs:MtS h N v l)(hl:l.length<100000)(hx:∀x∈l,x.length<100000∧∀s∈x,s.length≤100000):Fn A.C 14 [v,.int .i64 a,.int .i64 b] h N (fun u _ _=>u=.int .i64 (Zhy l a b)):=by
 intro w
 have hlen:=hs.len
 rw[Zab,A.k14 (by simp)]
 by_cases c0:l.length=0
 ·have c0':(l.length:Int)=0:=by omega
  simp[A.b14,hlen,c0,Zhy,Ret]
  exact Keeps.refl
 have c0':¬(l.length:Int)=0:=by omega
 have cpos:0<l.length:=by omega
 have cpos':0<(l.length:Int):=by omega
 obtain⟨l0,hl0⟩:=Zag cpos
 obtain⟨i0,o0,cc0,e0,rw0,u0,z1,z2,z3,z4,z5⟩:=hs.at hl0
 have z6:=z5.len
 rw[Zbn]at z6
 rw[Nat.add_zero]at z4
 obtain⟨n,hn⟩:∃n,n=l0.length:=⟨_,rfl⟩
 have en:hdL l=n:=by simp[hdL,hl0,hn]
 rw[←hn]at z6
 have hn1:n<100000:=by have:=(hx l0 (List.mem_of_getElem? hl0)).1;omega
 by_cases c1:n=0
 ·have c1':(n:Int)=0:=by omega
  simp[A.b14,hlen,c0,cpos,z1,z3,z4,z6,c1,Zhy,en,Ret]
  exact Keeps.refl
 have c1':¬(n:Int)=0:=by omega
 by_cases c2:a<l.length
 ·have c2':(a:Int)<(l.length:Int):=by omega
  simp[A.b14,hlen,c0,cpos,z1,z3,z4,z6,c1,c2,c2',Zhy,en,Ret]
  exact Keeps.refl
 have c2':¬(a:Int)<(l.length:Int):=by omega
 by_cases c3:b<n
 ·have c3':(b:Int)<(n:Int):=by omega
  simp[A.b14,hlen,c0,cpos,z1,z3,z4,z6,c1,c2,c2',c3,c3',Zhy,en,Ret]
  exact Keeps.refl
 ·have c3':¬(b:Int)<(n:Int):=by omega
  have e1:Zhy l a b=Zak (l.map fun x=>Zbx x n):=by simp[Zhy,en,c0,c1,c2,c3]
  rw[e1]
  simp[A.b14,hlen,c0,cpos,z1,z3,z4,z6,c1,c2',c3']
  refine Zaj [(6,8),(31,48)] (fun e r st=>Zaa N st.w=[]∧Keeps h N st.h st.n∧((e=.exit 0∧Zak (l.map fun x=>Zbx x n)=0)∨(e=.ret∧r.get 6=some (.int .i64 (Zak (l.map fun x=>Zbx x n)))))) (fun m r st=>Zaa N st.w=[]∧Keeps h N st.h st.n∧∃k,k+m=l.length∧r.get 7=some (.int .i64 k)∧Zak (l.map fun x=>Zbx x n)=Zak ((l.drop k).map fun x=>Zbx x n)) l.length ?_ ?_ ?_
  ·exact⟨by simp,Keeps.refl,0,by omega,by simp,by simp⟩
  ·rintro m r ⟨H,n1,W⟩ hr hf ⟨hW,hK,k,hk,h7,hz⟩
   simp only at hW hK
   rw[Zah]
   cases m with
   |zero=>
    obtain rfl:k=l.length:=by omega
    rw[List.drop_length,List.map_nil,Zak]at hz
    simp[A.lb14_0,hr,hf,h7,hlen,hz,hW,hK]
   |succ m=>
    have hlt:k<l.length:=by omega
    obtain⟨s,hc⟩:=Zag hlt
    obtain⟨i,o,cc,e,rw,u,q1,q2,q3,q4,q5⟩:=(hs.keep hK).at hc
    rw[Zaq hc,List.map_cons,Zak]at hz
    have hk1:(k:Int)<(l.length:Int):=by omega
    obtain⟨i1,o1,cc1,e1,rw1,u1,y1,y2,y3,y4,y5⟩:=(hs.keep hK).at hl0
    have y6:=y5.len
    rw[Zbn,←hn]at y6
    rw[Nat.add_zero]at y4
    obtain⟨rfl,rfl⟩:i=i1∧o=o1:=by rw[q1]at y1;simpa using y1
    obtain⟨rfl,rfl,rfl⟩:cc=cc1∧e=e1∧rw=rw1:=by rw[q3]at y3;simpa using y3
    simp[A.lb14_0,hr,h7,hk1,hlen,q1,q2,q3,q4,cpos,y4,y6]
    refine Zac (Zlx q5 (hx s (List.mem_of_getElem? hc)).1 (hx s (List.mem_of_getElem? hc)).2) ?_
    rintro _ h3 n3 k3 rfl
    have kk:=hK.trans k3
    by_cases h0:Zbx s n=0
    ·rw[if_pos h0]at hz
     simp(disch:=first|(simp;done)|omega|rfl) [hf,h7,h0,hW]
     exact⟨m,by omega,kk,k+1,by omega,by simp,by simpa using hz⟩
    ·rw[if_neg h0]at hz
     simp[hf,h0,hW,hz]
     exact kk
  ·rintro _ r ⟨H,n1,W⟩ hr ⟨hW,hK,⟨rfl,hz⟩|⟨rfl,h2⟩⟩
   ·simp only at hW hK
    simp[hz,Ret,hW,hK]
   ·simp only at hW hK
    simp[h2,Ret,hW,hK]
theorem Ykp{n:Nat}(hs:MtS h N v l)(hl:l.length<100000)(hx:∀x∈l,x.length<100000∧∀s∈x,s.length≤100000):Fn A.C 91 [v,.int .i64 n] h N (fun u _ _=>u=.int .i64 (Zrz l n)):=by
 intro w
 have hlen:=hs.len
 rw[Zab,A.k91 (by simp)]
 by_cases c0:l.length=0
 ·have c0':(l.length:Int)=0:=by omega
  simp[A.b91,hlen,c0,Zrz,Ret]
  exact Keeps.refl
 have c0':¬(l.length:Int)=0:=by omega
 by_cases c2:16<l.length
 ·have c2':16<(l.length:Int):=by omega
  simp[A.b91,hlen,c0,c2,c2',Zrz,Ret]
  exact Keeps.refl
 ·have c2':¬16<(l.length:Int):=by omega
  have e1:Zrz l n=Zak (l.map fun x=>Zbx x n):=by simp[Zrz,c0,c2]
  rw[e1]
  simp[A.b91,hlen,c0,c2']
  refine Zaj [(4,6),(13,27)] (fun e r st=>Zaa N st.w=[]∧Keeps h N st.h st.n∧((e=.exit 0∧Zak (l.map fun x=>Zbx x n)=0)∨(e=.ret∧r.get 4=some (.int .i64 (Zak (l.map fun x=>Zbx x n)))))) (fun m r st=>Zaa N st.w=[]∧Keeps h N st.h st.n∧∃k,k+m=l.length∧r.get 5=some (.int .i64 k)∧Zak (l.map fun x=>Zbx x n)=Zak ((l.drop k).map fun x=>Zbx x n)) l.length ?_ ?_ ?_
  ·exact⟨by simp,Keeps.refl,0,by omega,by simp,by simp⟩
  ·rintro m r ⟨H,n1,W⟩ hr hf ⟨hW,hK,k,hk,h7,hz⟩
   simp only at hW hK
   rw[Zah]
   cases m with
   |zero=>
    obtain rfl:k=l.length:=by omega
    rw[List.drop_length,List.map_nil,Zak]at hz
    simp[A.lb91_0,hr,hf,h7,hlen,hz,hW,hK]
   |succ m=>
    have hlt:k<l.length:=by omega
    obtain⟨s,hc⟩:=Zag hlt
    obtain⟨i,o,cc,e,rw,u,q1,q2,q3,q4,q5⟩:=(hs.keep hK).at hc
    rw[Zaq hc,List.map_cons,Zak]at hz
    have hk1:(k:Int)<(l.length:Int):=by omega
    skip
    simp[A.lb91_0,hr,h7,hk1,hlen,q1,q3,q4]
    refine Zac (Zlx q5 (hx s (List.mem_of_getElem? hc)).1 (hx s (List.mem_of_getElem? hc)).2) ?_
    rintro _ h3 n3 k3 rfl
    have kk:=hK.trans k3
    by_cases h0:Zbx s n=0
    ·rw[if_pos h0]at hz
     simp(disch:=first|(simp;done)|omega|rfl) [hf,h7,h0,hW]
     exact⟨m,by omega,kk,k+1,by omega,by simp,by simpa using hz⟩
    ·rw[if_neg h0]at hz
     simp[hf,h0,hW,hz]
     exact kk
  ·rintro _ r ⟨H,n1,W⟩ hr ⟨hW,hK,⟨rfl,hz⟩|⟨rfl,h2⟩⟩
   ·simp only at hW hK
    simp[hz,Ret,hW,hK]
   ·simp only at hW hK
    simp[h2,Ret,hW,hK]
theorem Yki(hs:MtS h N v l)(hl:l.length<100000)(hx:∀x∈l,x.length<100000∧∀s∈x,s.length≤100000):Fn A.C 15 [v] h N (fun u _ _=>u=.int .i64 (Zfc l)):=by
 intro w
 have hlen:=hs.len
 rw[Zab,A.k15 (by simp)]
 by_cases c0:l.length=0
 ·have c0':(l.length:Int)=0:=by omega
  simp[A.b15,hlen,c0,Zfc,Ret]
  exact Keeps.refl
 have c0':¬(l.length:Int)=0:=by omega
 by_cases c2:16<l.length
 ·have c2':16<(l.length:Int):=by omega
  simp[A.b15,hlen,c0,c2,c2',Zfc,Ret]
  exact Keeps.refl
 have c2':¬16<(l.length:Int):=by omega
 have cpos:0<l.length:=by omega
 have cpos':0<(l.length:Int):=by omega
 obtain⟨l0,hl0⟩:=Zag cpos
 obtain⟨i0,o0,cc0,e0,rw0,u0,z1,z2,z3,z4,z5⟩:=hs.at hl0
 have z6:=z5.len
 rw[Zbn]at z6
 rw[Nat.add_zero]at z4
 obtain⟨n,hn⟩:∃n,n=l0.length:=⟨_,rfl⟩
 have en:hdL l=n:=by simp[hdL,hl0,hn]
 rw[←hn]at z6
 by_cases c1:n=0
 ·have c1':(n:Int)=0:=by omega
  simp[A.b15,hlen,c0,c2,c2',cpos,z1,z3,z4,z6,c1,Zfc,en,Ret]
  exact Keeps.refl
 have c1':¬(n:Int)=0:=by omega
 by_cases c3:16<n
 ·have c3':16<(n:Int):=by omega
  simp[A.b15,hlen,c0,c2,c2',cpos,z1,z3,z4,z6,c1,c3,c3',Zfc,en,Ret]
  exact Keeps.refl
 have c3':¬16<(n:Int):=by omega
 have e1:Zfc l=Zrz l n:=by simp[Zfc,en,c0,c1,c2,c3]
 rw[e1]
 simp[A.b15,hlen,c0,c2',cpos,z1,z3,z4,z6,c1,c3']
 refine Zac (Ykp hs hl hx) ?_
 rintro _ H2 n2 k2 rfl
 simp[Ret]
 exact k2
end Go.Mx
namespace Go.Mx
open Go Go.Proofs
set_option maxRecDepth 1000000
def A.lb17_0:Zae:=.seq (sr [mv 13 7,mv 14 0,ln 15 14,bi 16 .lss 13 15]
 (cd 16
 (.skip)
 (.exit 0)))
 (.seq (.block 1 (.seq (sr [mv 19 0,mv 20 7,ia 21 1 19 20,ld 22 21,c1 23 93 22,mv 8 23]
 (sr [mv 24 8,ni 25 24 0]
 (cd 25
 (sr [mv 26 8,mv 6 26]
 (.ret))
 (.skip))))
 (sr [mv 27 0,mv 28 7,ia 29 1 27 28,ld 30 29,c1 31 94 30,mv 32 2,bi 33 .lss 31 32]
 (cd 33
 (sr [mc 6 3]
 (.ret))
 (.skip)))))
 (.reg [mv 17 7,bc 18 .add 17 1,mv 7 18]))
def A.b17:Zae:=sr [mc 6 0]
 (.seq (sr [mv 9 0,ln 10 9,mv 11 1,⟨(some 12),.bin .neq (.prim .int) false (.tmp 10) (.tmp 11),none⟩]
 (cd 12
 (sr [mc 6 2]
 (.ret))
 (.skip)))
 (.seq (sr [mc 7 0]
 (.block 0 (.loop A.lb17_0)))
 (sr [mc 6 0]
 (.ret))))
theorem A.c17:Zal Tryz.prog 17=some ⟨34,[.tmp 6],A.b17⟩:=by kernel_rfl
def A.k17:=@A.kk 17 _ _ _ A.c17 rfl
def A.lb97_0:Zae:=.seq (sr [mv 4 3,mv 5 0,ln 6 5,bi 7 .lss 4 6]
 (cd 7
 (.skip)
 (.exit 0)))
 (.seq (.block 1 (sr [mv 10 0,mv 11 3,ia 12 1 10 11,ld 13 12,c1 14 110 13,ni 15 14 0]
 (cd 15
 (sr [mc 2 4]
 (.ret))
 (.skip))))
 (.reg [mv 8 3,bc 9 .add 8 1,mv 3 9]))
def A.b97:Zae:=sr [mc 2 0]
 (.seq (sr [mc 3 0]
 (.block 0 (.loop A.lb97_0)))
 (sr [mc 2 0]
 (.ret)))
theorem A.c97:Zal Tryz.prog 97=some ⟨16,[.tmp 2],A.b97⟩:=by kernel_rfl
def A.k97:=@A.kk 97 _ _ _ A.c97 rfl
def Zep(least:Int)(s:Str):Int:=if chkNum s=0 then (if sg3 (Zp5 s).num<least then 3 else 0) else ((chkNum s:Nat):Int)
def Ylj(l:List Str)(n:Nat)(least:Int):Int:=if l.length=n then Zak (l.map (Zep least)) else 2
theorem Ymw{h:T O}{N:Nat}{v:V}{l:List Str}{n:Nat}{z:Int}(hs:Sl h N v (strs l))(hl:l.length<100000)(hf0:∀s∈l,s.length≤100000):Fn A.C 17 [v,.int .i64 n,.int .i64 z] h N (fun u _ _=>u=.int .i64 (Ylj l n z)):=by
 intro w
 have hlen:=hs.len
 rw[Zbn]at hlen
 rw[Zab,A.k17 (by simp)]
 by_cases c:l.length=n
 ·have e1:Ylj l n z=Zak (l.map (Zep z)):=by simp[Ylj,c]
  rw[e1]
  subst c
  simp[A.b17,hlen]
  refine Zaj [(6,8),(13,33)] (fun e r st=>Zaa N st.w=[]∧Keeps h N st.h st.n∧((e=.exit 0∧Zak (l.map (Zep z))=0)∨(e=.ret∧r.get 6=some (.int .i64 (Zak (l.map (Zep z))))))) (fun m r st=>Zaa N st.w=[]∧Keeps h N st.h st.n∧∃k,k+m=l.length∧r.get 7=some (.int .i64 k)∧Zak (l.map (Zep z))=Zak ((l.drop k).map (Zep z))) l.length ?_ ?_ ?_
  ·exact⟨by simp,Keeps.refl,0,by omega,by simp,by simp⟩
  ·rintro m r ⟨H,n1,W⟩ hr hf ⟨hW,hK,k,hk,h7,hz⟩
   simp only at hW hK
   rw[Zah]
   cases m with
   |zero=>
    obtain rfl:k=l.length:=by omega
    rw[List.drop_length,List.map_nil,Zak]at hz
    simp[A.lb17_0,hr,hf,h7,hlen,hz,hW,hK]
   |succ m=>
    have hlt:k<l.length:=by omega
    obtain⟨s,hc⟩:=Zag hlt
    have hc2:=Zf1 hc
    obtain⟨i,o,cc,e,rw,q1,q2,q3,q4⟩:=(hs.keep hK).at hc2
    rw[Zaq hc,List.map_cons,Zak]at hz
    have hk1:(k:Int)<(l.length:Int):=by omega
    simp[A.lb17_0,hr,h7,hk1,hlen,q1,q3,q4]
    refine Zac (Zqn (hf0 s (List.mem_of_getElem? hc))) ?_
    rintro _ h3 n3 k3 rfl
    have kk:=hK.trans k3
    by_cases h0:chkNum s=0
    ·obtain⟨t1,_⟩:=Zpy h0
     obtain⟨i',o',cc',e',rw',p1,p2,p3,p4⟩:=(hs.keep kk).at hc2
     rw[←t1]at p4
     have h0':((chkNum s:Nat):Int)=0:=by omega
     by_cases h2:sg3 (Zp5 s).num<z
     ·have e2:Zep z s=3:=by simp[Zep,h0,h2]
      rw[e2,if_neg (by decide)]at hz
      simp[hr,hf,h7,h0,hW,hk1,hlen,p1,p3,p4,Zo8,h2,hz]
      exact kk
     ·have e2:Zep z s=0:=by simp[Zep,h0,h2]
      rw[e2,if_pos rfl]at hz
      simp(disch:=first|(simp;done)|omega|rfl) [hr,hf,h7,h0,hW,hlen,p1,p3,p4,Zo8,h2]
      exact⟨m,by omega,kk,k+1,by omega,by simp,by simpa using hz⟩
    ·have e2:Zep z s=((chkNum s:Nat):Int):=by simp[Zep,h0]
     have h0':¬((chkNum s:Nat):Int)=0:=by omega
     rw[e2,if_neg h0']at hz
     simp[hf,h0,hW,hz]
     exact kk
  ·rintro _ r ⟨H,n1,W⟩ hr ⟨hW,hK,⟨rfl,hz⟩|⟨rfl,h2⟩⟩
   ·simp only at hW hK
    simp[hz,Ret,hW,hK]
   ·simp only at hW hK
    simp[h2,Ret,hW,hK]
 ·have c':¬(l.length:Int)=(n:Int):=by omega
  simp[A.b17,hlen,c',Ylj,c,Ret]
  exact Keeps.refl
def Zcw(l:List Rat):Bool:=l.any Yhj
theorem Ya0{h:T O}{N:Nat}{v:V}{l:List Rat}{w:List Nat}(hs:Tx h N v l)(hl:l.length<100000)(hf0:∀q∈l,(Za3 q).length<1000000):A.C.call (.func 97 [] []) [v] ⟨h,N,w⟩=some (.int .i64 (if Zcw l=true then 4 else 0),⟨h,N,w⟩):=by
 apply Call.eq
 have hlen:=hs.len
 rw[Zab,A.k97 (by simp)]
 simp[A.b97]
 refine Zaj [(2,15)] (fun e r st=>st=⟨h,N,[]⟩∧((e=.exit 0∧Zcw l=false)∨(e=.ret∧Zcw l=true∧r.get 2=some (.int .i64 4)))) (fun m r st=>st=⟨h,N,[]⟩∧∃k,k+m=l.length∧r.get 3=some (.int .i64 k)∧Zcw l=Zcw (l.drop k)) l.length ?_ ?_ ?_
 ·exact⟨rfl,0,by omega,by simp,by simp⟩
 ·rintro m r _ hr hf ⟨rfl,k,hk,h7,hz⟩
  rw[Zah]
  cases m with
  |zero=>
   obtain rfl:k=l.length:=by omega
   rw[List.drop_length]at hz
   simp[Zcw]at hz
   simp[A.lb97_0,hr,hf,h7,hlen]
   simpa[Zcw]using hz
  |succ m=>
   have hlt:k<l.length:=by omega
   obtain⟨q,hc⟩:=Zag hlt
   obtain⟨i,o,cc,e,rw,q1,q2,q3,q4⟩:=Sl.at hs (Zl8 hc)
   rw[Zaq hc]at hz
   have hk1:(k:Int)<(l.length:Int):=by omega
   have hlg:=fun st=>Ya9 (st:=st) (hf0 q (List.mem_of_getElem? hc))
   by_cases h0:Yhj q=true
   ·have e1:Zcw l=true:=by rw[hz];simp[Zcw,h0]
    rw[if_pos h0]at hlg
    simp[A.lb97_0,hr,hf,h7,hk1,hlen,q1,q3,q4,hlg,e1]
   ·have e1:Zcw l=Zcw (l.drop (k+1)):=by rw[hz];simp[Zcw,h0]
    rw[if_neg h0]at hlg
    simp(disch:=first|(simp;done)|omega|rfl) [A.lb97_0,hr,hf,h7,hk1,hlen,q1,q3,q4,hlg]
    exact⟨m,by omega,k+1,by omega,by simp,e1⟩
 ·rintro _ r _ hr ⟨rfl,⟨rfl,hz⟩|⟨rfl,hz,h2⟩⟩
  ·simp[hz]
  ·simp[h2,hz]
end Go.Mx
namespace Go.Mx
open Go Go.Proofs
variable {N:Nat} {h:T O} {v:V}
set_option maxRecDepth 1000000
def A.lb84_0:Zae:=sr [bi 11 .lss 10 9]
 (.seq (cd 11
 (.skip)
 (.exit 0))
 (.seq (.block 1 (sr [ia 12 1 8 10,ld 13 12,mv 6 13]
 (sr [mv 14 1,mv 15 6,⟨(some 16),.call (.tmp 14) [(.tmp 15)],none⟩,mv 7 16]
 (sr [mv 17 7,ni 18 17 0]
 (cd 18
 (sr [mv 19 7,mv 4 19]
 (.ret))
 (.skip))))))
 (.reg [bc 20 .add 10 1,mv 10 20])))
def A.b84:Zae:=sr [mc 4 0]
 (.seq (sr [mv 8 0,ln 9 8,mc 10 0]
 (.block 0 (.loop A.lb84_0)))
 (sr [mc 4 0]
 (.ret)))
theorem A.c84:Zal Tryz.prog 84=some ⟨21,[.tmp 4],A.b84⟩:=by kernel_rfl
def A.k84:=@A.kk 84 _ _ _ A.c84 rfl
def A.b68:Zae:=sr [mc 4 0]
 (.seq (sr [mv 5 0,ln 6 5,mv 7 1,⟨(some 8),.bin .neq (.prim .int) false (.tmp 6) (.tmp 7),none⟩]
 (cd 8
 (sr [mc 4 2]
 (.ret))
 (.skip)))
 (sr [mv 9 0,⟨(some 10),.call (.const (.func 84 [] [])) [(.tmp 9),(.const (.func 151 [] []))],none⟩,mv 4 10]
 (.ret)))
theorem A.c68:Zal Tryz.prog 68=some ⟨11,[.tmp 4],A.b68⟩:=by kernel_rfl
def A.k68:=@A.kk 68 _ _ _ A.c68 rfl
def A.lb78_0:Zae:=sr [bi 11 .lss 10 9]
 (.seq (cd 11
 (.skip)
 (.exit 0))
 (.seq (.block 1 (sr [ia 12 1 8 10,ld 13 12,mv 6 13]
 (sr [mv 14 6,mv 15 1,c2 16 68 14 15,mv 7 16]
 (sr [mv 17 7,ni 18 17 0]
 (cd 18
 (sr [mv 19 7,mv 4 19]
 (.ret))
 (.skip))))))
 (.reg [bc 20 .add 10 1,mv 10 20])))
def A.b78:Zae:=sr [mc 4 0]
 (.seq (sr [mv 8 0,ln 9 8,mc 10 0]
 (.block 0 (.loop A.lb78_0)))
 (sr [mc 4 0]
 (.ret)))
theorem A.c78:Zal Tryz.prog 78=some ⟨21,[.tmp 4],A.b78⟩:=by kernel_rfl
def A.k78:=@A.kk 78 _ _ _ A.c78 rfl
def A.b85:Zae:=sr [bx 1 3 0,⟨(some 2),.mov (.const .nilfunc),none⟩]
 (sr [⟨(some 3),.mkfunc 155 [] [(.tmp 1)],none⟩,mv 2 3]
 (.ret))
theorem A.c85:Zal Tryz.prog 85=some ⟨4,[.tmp 2],A.b85⟩:=by kernel_rfl
def A.k85:=@A.kk 85 _ _ _ A.c85 rfl
def A.b155:Zae:=sr [mc 3 0]
 (.seq (sr [mv 5 0,c1 6 151 5,mv 4 6]
 (sr [mv 7 4,ni 8 7 0]
 (cd 8
 (sr [mv 9 4,mv 3 9]
 (.ret))
 (.skip))))
 (.seq (.regD [mv 10 0,c1 11 146 10,c1 12 128 11,ld 13 1,bi 14 .lss 12 13,⟨(some 15),.call (.const (.func 75 [] [])) [(.tmp 14),(.const (.int .i64 3))],none⟩,mv 3 15] [0,1,3,0,15,31,63])
 (.ret)))
theorem A.c155:Zal Tryz.prog 155=some ⟨16,[.tmp 3],A.b155⟩:=by kernel_rfl
def A.k155:=@A.kk 155 _ _ _ A.c155 rfl
theorem Ybx{f:V}{l:List Str}(P:Str→Int)(hs:Sl h N v (strs l))(hl:l.length<100000)(hf:∀s∈l,∀h' n',Keeps h N h' n'→FnV A.C f [.str s] h' n' (fun u _ _=>u=.int .i64 (P s))):Fn A.C 84 [v,f] h N (fun u _ _=>u=.int .i64 (Zak (l.map P))):=by
 intro w
 have hlen:=hs.len
 rw[Zbn]at hlen
 rw[Zab,A.k84 (by simp)]
 simp[A.b84,hlen]
 refine Zaj [(4,4),(6,7),(10,20)] (fun e r st=>Zaa N st.w=[]∧Keeps h N st.h st.n∧((e=.exit 0∧Zak (l.map P)=0)∨(e=.ret∧r.get 4=some (.int .i64 (Zak (l.map P)))))) (fun m r st=>Zaa N st.w=[]∧Keeps h N st.h st.n∧∃k,k+m=l.length∧r.get 10=some (.int .i64 k)∧Zak (l.map P)=Zak ((l.drop k).map P)) l.length ?_ ?_ ?_
 ·exact⟨by simp,Keeps.refl,0,by omega,by simp,by simp⟩
 ·rintro m r ⟨H,n1,W⟩ hr hf2 ⟨hW,hK,k,hk,h7,hz⟩
  simp only at hW hK
  rw[Zah]
  cases m with
  |zero=>
   obtain rfl:k=l.length:=by omega
   rw[List.drop_length,List.map_nil,Zak]at hz
   simp[A.lb84_0,hr,hf2,h7,hz,hW,hK]
  |succ m=>
   have hlt:k<l.length:=by omega
   obtain⟨s,hc⟩:=Zag hlt
   obtain⟨i,o,cc,e,rw,q1,q2,q3,q4⟩:=(hs.keep hK).at (Zf1 hc)
   rw[Zaq hc,List.map_cons,Zak]at hz
   have hk1:(k:Int)<(l.length:Int):=by omega
   simp[A.lb84_0,hr,h7,hk1,hlen,q1,q3,q4]
   refine Zkn (hf s (List.mem_of_getElem? hc) _ _ hK) ?_
   rintro _ h3 n3 k3 rfl
   have kk:=hK.trans k3
   by_cases h0:P s=0
   ·rw[if_pos h0]at hz
    simp(disch:=first|(simp;done)|omega|rfl) [hf2,h7,h0,hW]
    exact⟨m,by omega,kk,k+1,by omega,by simp,by simpa using hz⟩
   ·rw[if_neg h0]at hz
    simp[hf2,h0,hW,hz]
    exact kk
 ·rintro _ r ⟨H,n1,W⟩ hr ⟨hW,hK,⟨rfl,hz⟩|⟨rfl,h2⟩⟩
  ·simp only at hW hK
   simp[hz,Ret,hW,hK]
  ·simp only at hW hK
   simp[h2,Ret,hW,hK]
theorem Zjm{l:List Str}{n:Nat}(hs:Sl h N v (strs l))(hl:l.length<100000)(hf0:∀s∈l,s.length≤100000):Fn A.C 68 [v,.int .i64 n] h N (fun u _ _=>u=.int .i64 (Zbx l n)):=by
 intro w
 have hlen:=hs.len
 rw[Zbn]at hlen
 rw[Zab,A.k68 (by simp)]
 by_cases c:l.length=n
 ·subst c
  simp[A.b68,hlen]
  refine Zac (Ybx (fun s=>((chkNum s:Nat):Int)) hs hl fun s hs h' n' _=>Zvu (hf0 s hs)) ?_
  rintro _ H2 n2 k2 rfl
  simp[Ret,Zbx]
  exact k2
 ·have c':¬(l.length:Int)=(n:Int):=by omega
  simp[A.b68,hlen,c',Zbx,c,Ret]
  exact Keeps.refl
theorem Yd8{l:List (List Str)}{n:Nat}(hs:MtS h N v l)(hl:l.length<100000)(hx:∀x∈l,x.length<100000∧∀s∈x,s.length≤100000):Fn A.C 78 [v,.int .i64 n] h N (fun u _ _=>u=.int .i64 (Zak (l.map fun x=>Zbx x n))):=by
 intro w
 have hlen:=hs.len
 rw[Zab,A.k78 (by simp)]
 simp[A.b78,hlen]
 refine Zaj [(4,4),(6,7),(10,20)] (fun e r st=>Zaa N st.w=[]∧Keeps h N st.h st.n∧((e=.exit 0∧Zak (l.map (fun x=>Zbx x n))=0)∨(e=.ret∧r.get 4=some (.int .i64 (Zak (l.map (fun x=>Zbx x n))))))) (fun m r st=>Zaa N st.w=[]∧Keeps h N st.h st.n∧∃k,k+m=l.length∧r.get 10=some (.int .i64 k)∧Zak (l.map (fun x=>Zbx x n))=Zak ((l.drop k).map (fun x=>Zbx x n))) l.length ?_ ?_ ?_
 ·exact⟨by simp,Keeps.refl,0,by omega,by simp,by simp⟩
 ·rintro m r ⟨H,n1,W⟩ hr hf2 ⟨hW,hK,k,hk,h7,hz⟩
  simp only at hW hK
  rw[Zah]
  cases m with
  |zero=>
   obtain rfl:k=l.length:=by omega
   rw[List.drop_length,List.map_nil,Zak]at hz
   simp[A.lb78_0,hr,hf2,h7,hz,hW,hK]
  |succ m=>
   have hlt:k<l.length:=by omega
   obtain⟨s,hc⟩:=Zag hlt
   obtain⟨i,o,cc,e,rw,u,q1,q2,q3,q4,q5⟩:=(hs.keep hK).at hc
   rw[Zaq hc,List.map_cons,Zak]at hz
   have hk1:(k:Int)<(l.length:Int):=by omega
   simp[A.lb78_0,hr,h7,hk1,hlen,q1,q3,q4]
   refine Zac (Zjm q5 (hx s (List.mem_of_getElem? hc)).1 (hx s (List.mem_of_getElem? hc)).2) ?_
   rintro _ h3 n3 k3 rfl
   have kk:=hK.trans k3
   by_cases h0:Zbx s n=0
   ·rw[if_pos h0]at hz
    simp(disch:=first|(simp;done)|omega|rfl) [hf2,h7,h0,hW]
    exact⟨m,by omega,kk,k+1,by omega,by simp,by simpa using hz⟩
   ·rw[if_neg h0]at hz
    simp[hf2,h0,hW,hz]
    exact kk
 ·rintro _ r ⟨H,n1,W⟩ hr ⟨hW,hK,⟨rfl,hz⟩|⟨rfl,h2⟩⟩
  ·simp only at hW hK
   simp[hz,Ret,hW,hK]
  ·simp only at hW hK
   simp[h2,Ret,hW,hK]
theorem Zwh{q:Nat}{s:Str}{z:Int}{e:TypeId}{rw:Bool}(hq:h.get q=some (.cells [.int .i64 z] e rw))(hlt:q<N)(hl:s.length≤100000):FnV A.C (.func 155 [] [.ptr q 0]) [.str s] h N (fun u _ _=>u=.int .i64 (Zep z s)):=by
 intro w
 rw[Zab,A.k155 (by simp)]
 simp[A.b155]
 refine Zac (Zvu hl) ?_
 rintro _ h2 n2 k2 rfl
 by_cases h0:chkNum s=0
 ·have h0':((chkNum s:Nat):Int)=0:=by omega
  obtain⟨t1,t2,t3⟩:=Zpy h0
  have l1:(decI (Zp5 s).num).length≤100000:=by
   have:(decI (Zp5 s).num).length≤(decN (Zp5 s).num.natAbs).length+1:=by unfold decI;split<;>simp
   omega
  have hq2:=(k2.get q hlt).trans hq
  have hfr:=Ybq (q:=Zp5 s) (h:=h2) (N:=n2) l1 (by omega)
  rw[t1]at hfr
  simp[h0]
  refine Zac hfr ?_
  rintro x3 h3 n3 k3 hx
  have kl2:=k2.le
  have hq3:=(k3.get q (by omega)).trans hq2
  simp[]
  refine Zac (Yff hx) ?_
  rintro _ h4 n4 k4 rfl
  have kl3:=k3.le
  have hq4:=(k4.get q (by omega)).trans hq3
  have kl4:=k4.le
  have d4:q<n4:=by omega
  by_cases h5:sg3 (Zp5 s).num<z
  ·simp[hq4,h5,Zkj,Zep,h0]
   refine(Zdk (by simp[-Zaa,d4])).2 ?_
   simp[Ret]
   exact(k2.trans k3).trans k4
  ·simp[hq4,h5,Zkj,Zep,h0]
   refine(Zdk (by simp[-Zaa,d4])).2 ?_
   simp[Ret]
   exact(k2.trans k3).trans k4
 ·have h0':¬((chkNum s:Nat):Int)=0:=by omega
  simp[h0,Ret,Zep]
  exact k2
end Go.Mx
namespace Go.Mx
open Go Go.Proofs
variable {N:Nat} {h:T O} {l:List (List Str)} {v:V}
set_option maxRecDepth 1000000
def A.b200:Zae:=sr [⟨(some 2),.alloc [(.int .i64 0),(.int .i64 0)] 151,none⟩]
 (sr [mv 3 0,ln 4 3,mv 5 0,⟨(some 6),.iaddrSl 1 (.tmp 5) (.const (.int .i64 0)),none⟩,ld 7 6,ln 8 7,⟨(some 9),.build [(.int .i64 0),(.int .i64 0)] [(0,1,(.tmp 4)),(1,1,(.tmp 8))],none⟩,⟨none,.store 2 (.tmp 2) (.tmp 9),none⟩]
 (.ret))
theorem A.c200:Zal Tryz.prog 200=some ⟨10,[.cell 2 (some 2)],A.b200⟩:=by kernel_rfl
def A.k200:=@A.kk 200 _ _ _ A.c200 rfl
def A.lb131_0:Zae:=sr [bi 36 .lss 35 34]
 (.seq (cd 36
 (.skip)
 (.exit 0))
 (.seq (.block 1 (sr [ia 37 1 33 35,ld 38 37,mv 7 38]
 (sr [mv 39 7,⟨(some 40),.iaddrArr 2 1 (.tmp 5) (.const (.int .i64 1)),none⟩,ld 41 40,c2 42 68 39 41,mv 8 42]
 (sr [mv 43 8,ni 44 43 0]
 (cd 44
 (sr [mv 45 8,mv 4 45]
 (.ret))
 (.skip))))))
 (.reg [bc 46 .add 35 1,mv 35 46])))
def A.b131:Zae:=sr [bx 3 151 1,mc 4 0]
 (.seq (sr [mv 9 0,ln 10 9,ei 11 10 0,mv 12 11,mh 13 0 12,⟨(some 14),.iaddrSl 1 (.tmp 13) (.const (.int .i64 0)),(some (12,false))⟩,⟨(some 15),.load none (.tmp 14),(some (12,false))⟩,⟨(some 16),.len 1 (.tmp 15),(some (12,false))⟩,⟨(some 17),.bin .eql (.prim .int) true (.tmp 16) (.const (.int .i64 0)),(some (12,false))⟩,pt 18 12 17]
 (cd 18
 (sr [mc 4 12]
 (.ret))
 (.skip)))
 (sr [mv 19 0,c1 20 200 19,⟨(some 5),.alloc [(.int .i64 0),(.int .i64 0)] 151,none⟩,⟨none,.store 2 (.tmp 5) (.tmp 20),none⟩]
 (.seq (sr [⟨(some 21),.iaddrArr 2 1 (.tmp 5) (.const (.int .i64 0)),none⟩,ld 22 21,⟨(some 23),.iaddrArr 2 1 (.tmp 3) (.const (.int .i64 0)),none⟩,ld 24 23,bi 25 .gtr 22 24,mv 26 25,⟨(some 27),.iaddrArr 2 1 (.tmp 5) (.const (.int .i64 1)),(some (26,false))⟩,⟨(some 28),.load none (.tmp 27),(some (26,false))⟩,⟨(some 29),.iaddrArr 2 1 (.tmp 3) (.const (.int .i64 1)),(some (26,false))⟩,⟨(some 30),.load none (.tmp 29),(some (26,false))⟩,⟨(some 31),.bin .gtr (.node []) false (.tmp 28) (.tmp 30),(some (26,false))⟩,pt 32 26 31]
 (cd 32
 (sr [mc 4 5]
 (.ret))
 (.skip)))
 (.seq (sr [mv 33 0,ln 34 33,mc 35 0]
 (.block 0 (.loop A.lb131_0)))
 (sr [mc 4 0]
 (.ret))))))
theorem A.c131:Zal Tryz.prog 131=some ⟨47,[.tmp 4],A.b131⟩:=by kernel_rfl
def A.k131:=@A.kk 131 _ _ _ A.c131 rfl
def A.b66:Zae:=sr [mc 2 0]
 (sr [mv 3 0,⟨(some 4),.build [(.int .i64 0),(.int .i64 0)] [(0,1,(.const (.int .i64 64))),(1,1,(.const (.int .i64 64)))],none⟩,c2 5 131 3 4,mv 2 5]
 (.ret))
theorem A.c66:Zal Tryz.prog 66=some ⟨6,[.tmp 2],A.b66⟩:=by kernel_rfl
def A.k66:=@A.kk 66 _ _ _ A.c66 rfl
theorem Ydp{l0:List Str}(hs:MtS h N v l)(h0:l[0]?=some l0):Fn A.C 200 [v] h N (fun u _ _=>u=.agg [.int .i64 l.length,.int .i64 l0.length]):=by
 intro w
 have hlen:=hs.len
 have cpos:0<l.length:=Zbj h0
 have cpos':0<(l.length:Int):=by omega
 obtain⟨i0,o0,cc0,e0,rw0,u0,z1,z2,z3,z4,z5⟩:=hs.at h0
 have z6:=z5.len
 rw[Zbn]at z6
 rw[Nat.add_zero]at z4
 have d1:¬i0=N:=by omega
 have d2:¬N=i0:=by omega
 rw[Zab,A.k200 (by simp)]
 simp[A.b200,hlen,cpos,z1,z3,z4,z6,d1,splice,Zan,Zam,slc,Ret]
 exact(Keeps.refl.new _).set (Nat.le_refl _)
set_option maxHeartbeats 1000000 in
theorem Yd9{a b:Nat}(hs:MtS h N v l)(hl:l.length<100000)(hx:∀x∈l,x.length<100000∧∀s∈x,s.length≤100000):Fn A.C 131 [v,.agg [.int .i64 a,.int .i64 b]] h N (fun u _ _=>u=.int .i64 (Zhy l a b)):=by
 intro w
 have hlen:=hs.len
 rw[Zab,A.k131 (by simp)]
 by_cases c0:l.length=0
 ·have c0':(l.length:Int)=0:=by omega
  simp[A.b131,hlen,c0,Zhy,Ret]
  exact Keeps.refl.new _
 have c0':¬(l.length:Int)=0:=by omega
 have cpos:0<l.length:=by omega
 have cpos':0<(l.length:Int):=by omega
 obtain⟨l0,hl0⟩:=Zag cpos
 obtain⟨i0,o0,cc0,e0,rw0,u0,z1,z2,z3,z4,z5⟩:=hs.at hl0
 have z6:=z5.len
 rw[Zbn]at z6
 rw[Nat.add_zero]at z4
 obtain⟨n,hn⟩:∃n,n=l0.length:=⟨_,rfl⟩
 have en:hdL l=n:=by simp[hdL,hl0,hn]
 rw[←hn]at z6
 have hn1:n<100000:=by have:=(hx l0 (List.mem_of_getElem? hl0)).1;omega
 have d1:¬i0=N:=by omega
 have d2:¬N=i0:=by omega
 by_cases c1:n=0
 ·have c1':(n:Int)=0:=by omega
  simp[A.b131,hlen,c0,cpos,z1,z3,z4,z6,d1,c1,Zhy,en,Ret]
  exact Keeps.refl.new _
 have c1':¬(n:Int)=0:=by omega
 have e1:Zhy l a b=if a<l.length∨b<n then 5 else Zak (l.map fun x=>Zbx x n):=by simp[Zhy,en,c0,c1]
 rw[e1]
 simp[A.b131,hlen,c0,cpos,z1,z3,z4,z6,d1,c1]
 generalize hH:h.set N (.cells [.int .i64 a,.int .i64 b] 151 true)=H
 have k1:Keeps h N H (N+1):=by rw[←hH];exact Keeps.refl.new _
 have g1:H.get N=some (.cells [.int .i64 a,.int .i64 b] 151 true):=by rw[←hH];simp
 clear hH
 refine Zac (Ydp (hs.keep k1) hl0) ?_
 rintro _ H2 n2 k2 rfl
 rw[←hn]
 have kl2:=k2.le
 have g2:=(k2.get N (by omega)).trans g1
 have d3:¬N=n2:=by omega
 have d4:¬n2=N:=by omega
 have kz:Keeps h N ((H2.set n2 (.cells [.int .i64 0,.int .i64 0] 151 true)).set n2 (.cells [.int .i64 l.length,.int .i64 n] 151 true)) (n2+1):=((k1.trans k2).new _).set (by omega)
 by_cases c2:a<l.length
 ·have c2':(a:Int)<(l.length:Int):=by omega
  simp[g2,d3,splice,Zan,Zam,c2,c2',Ret]
  exact⟨by omega,kz⟩
 have c2':¬(a:Int)<(l.length:Int):=by omega
 by_cases c3:b<n
 ·have c3':(b:Int)<(n:Int):=by omega
  simp[g2,d3,splice,Zan,Zam,c2,c2',c3,c3',Ret]
  exact⟨by omega,kz⟩
 have c3':¬(b:Int)<(n:Int):=by omega
 simp[hlen,g2,d3,splice,Zan,Zam,c2,c2',c3,c3']
 generalize hH3:(H2.set n2 (.cells [.int .i64 0,.int .i64 0] 151 true)).set n2 (.cells [.int .i64 l.length,.int .i64 n] 151 true)=H3 at*
 have g3:H3.get n2=some (.cells [.int .i64 l.length,.int .i64 n] 151 true):=by rw[←hH3];simp
 clear hH3
 have kd:Keeps H3 (n2+1) H3 (n2+1):=Keeps.refl
 refine Zaj [(4,4),(7,8),(35,46)] (fun e r st=>Zaa N st.w=[]∧Keeps h N st.h st.n∧((e=.exit 0∧Zak (l.map (fun x=>Zbx x n))=0)∨(e=.ret∧r.get 4=some (.int .i64 (Zak (l.map (fun x=>Zbx x n))))))) (fun m r st=>Zaa N st.w=[]∧Keeps h N st.h st.n∧(n2<st.n∧st.h.get n2=H3.get n2)∧∃k,k+m=l.length∧r.get 35=some (.int .i64 k)∧Zak (l.map (fun x=>Zbx x n))=Zak ((l.drop k).map (fun x=>Zbx x n))) l.length ?_ ?_ ?_
 ·exact⟨by simp;omega,kz,⟨by simp,rfl⟩,0,by omega,by simp,by simp⟩
 ·rintro m r ⟨H,n1,W⟩ hr hf2 ⟨hW,hK,⟨hlt2,hG⟩,k,hk,h7,hz⟩
  simp only at hW hK hlt2 hG
  rw[Zah]
  cases m with
  |zero=>
   obtain rfl:k=l.length:=by omega
   rw[List.drop_length,List.map_nil,Zak]at hz
   simp[A.lb131_0,hr,hf2,h7,hz,hW,hK]
  |succ m=>
   have hlt:k<l.length:=by omega
   obtain⟨s,hc⟩:=Zag hlt
   obtain⟨i,o,cc,e,rw,u,q1,q2,q3,q4,q5⟩:=(hs.keep hK).at hc
   have g4:=hG.trans g3
   rw[Zaq hc,List.map_cons,Zak]at hz
   have hk1:(k:Int)<(l.length:Int):=by omega
   simp[A.lb131_0,hr,h7,hk1,hlen,q1,q3,q4,g4]
   refine Zac (Zjm q5 (hx s (List.mem_of_getElem? hc)).1 (hx s (List.mem_of_getElem? hc)).2) ?_
   rintro _ h3 n3 k3 rfl
   have kk:=hK.trans k3
   by_cases h0:Zbx s n=0
   ·rw[if_pos h0]at hz
    simp(disch:=first|(simp;done)|omega|rfl) [hf2,h7,h0,hW]
    exact⟨m,by omega,kk,⟨by have:=k3.le;omega,(k3.get n2 hlt2).trans hG⟩,k+1,by omega,by simp,by simpa using hz⟩
   ·rw[if_neg h0]at hz
    simp[hf2,h0,hW,hz]
    exact kk
 ·rintro _ r ⟨H,n1,W⟩ hr ⟨hW,hK,⟨rfl,hz⟩|⟨rfl,h2⟩⟩
  ·simp only at hW hK
   simp[hz,Ret,hW,hK]
  ·simp only at hW hK
   simp[h2,Ret,hW,hK]
theorem Zuv(hs:MtS h N v l)(hl:l.length<100000)(hx:∀x∈l,x.length<100000∧∀s∈x,s.length≤100000):Fn A.C 66 [v] h N (fun u _ _=>u=.int .i64 (Zhy l 64 64)):=by
 intro w
 rw[Zab,A.k66 (by simp)]
 simp[A.b66,splice]
 refine Zac (Yd9 (a:=64) (b:=64) hs hl hx) ?_
 rintro _ H2 n2 k2 rfl
 simp[Ret]
 exact k2
end Go.Mx
