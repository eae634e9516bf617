/-
  asked and the checks of Apply, Compose, Noise.
-/
import Derived.Test.YtlbophlgohokkaaGreatDoorVaD
set_option linter.all false
namespace Go.Mx
open Go Go.Proofs
variable {N q:Nat} {ep:TypeId} {h:T O} {l:List Str} {m:List (List Str)} {u v:V} {wp wq:Bool}
set_option maxRecDepth 1000000
def A.lb64_0:Zae:=sr [bi 9 .lss 8 7]
 (.seq (cd 9
 (.skip)
 (.exit 0))
 (.seq (.block 1 (sr [ia 10 1 6 8,ld 11 10,mv 4 11]
 (sr [mv 12 4,⟨(some 13),.call (.tmp 12) [],none⟩,mv 5 13]
 (sr [mv 14 5,ni 15 14 0]
 (cd 15
 (sr [mv 16 5,mv 2 16]
 (.ret))
 (.skip))))))
 (.reg [bc 17 .add 8 1,mv 8 17])))
def A.b64:Zae:=sr [mc 2 0]
 (.seq (sr [mv 6 0,ln 7 6,mc 8 0]
 (.block 0 (.loop A.lb64_0)))
 (sr [mc 2 0]
 (.ret)))
theorem A.c64:Zal Tryz.prog 64=some ⟨18,[.tmp 2],A.b64⟩:=by kernel_rfl
def A.k64:=@A.kk 64 _ _ _ A.c64 rfl
def A.b65:Zae:=sr [mc 1 0]
 (sr [ld 2 0,c1 3 66 2,mv 1 3]
 (.ret))
theorem A.c65:Zal Tryz.prog 65=some ⟨4,[.tmp 1],A.b65⟩:=by kernel_rfl
def A.k65:=@A.kk 65 _ _ _ A.c65 rfl
def A.b67:Zae:=sr [mc 2 0]
 (.seq (.regD [ld 3 0,ld 4 1,⟨(some 5),.iaddrSl 1 (.tmp 4) (.const (.int .i64 0)),none⟩,ld 6 5,ln 7 6,c2 8 68 3 7,mv 2 8] [0,0,2,6,14,31,63])
 (.ret))
theorem A.c67:Zal Tryz.prog 67=some ⟨9,[.tmp 2],A.b67⟩:=by kernel_rfl
def A.k67:=@A.kk 67 _ _ _ A.c67 rfl
def A.b73:Zae:=sr [mc 1 0]
 (.seq (.regD [ld 2 0,ln 3 2,ei 4 3 0,⟨(some 5),.call (.const (.func 75 [] [])) [(.tmp 4),(.const (.int .i64 12))],none⟩,ld 6 0,ln 7 6,bc 8 .gtr 7 16,⟨(some 9),.call (.const (.func 75 [] [])) [(.tmp 8),(.const (.int .i64 5))],none⟩,⟨(some 10),.bslice 27 1 2 [(.int .i64 0),(.int .i64 0)] [(0,1,(.tmp 5)),(1,1,(.tmp 9))],none⟩,c1 11 74 10,mv 1 11] [0,1,3,7,0,16,48,127,255,511,1023])
 (.ret))
theorem A.c73:Zal Tryz.prog 73=some ⟨12,[.tmp 1],A.b73⟩:=by kernel_rfl
def A.k73:=@A.kk 73 _ _ _ A.c73 rfl
def A.b76:Zae:=sr [mc 1 0]
 (.seq (.regD [ld 2 0,⟨(some 3),.iaddrSl 1 (.tmp 2) (.const (.int .i64 0)),none⟩,ld 4 3,ln 5 4,ei 6 5 0,⟨(some 7),.call (.const (.func 75 [] [])) [(.tmp 6),(.const (.int .i64 12))],none⟩,ld 8 0,⟨(some 9),.iaddrSl 1 (.tmp 8) (.const (.int .i64 0)),none⟩,ld 10 9,ln 11 10,bc 12 .gtr 11 16,⟨(some 13),.call (.const (.func 75 [] [])) [(.tmp 12),(.const (.int .i64 5))],none⟩,⟨(some 14),.bslice 27 1 2 [(.int .i64 0),(.int .i64 0)] [(0,1,(.tmp 7)),(1,1,(.tmp 13))],none⟩,c1 15 74 14,mv 1 15] [0,1,3,7,15,31,0,64,192,448,960,2047,4095,8191,16383])
 (.ret))
theorem A.c76:Zal Tryz.prog 76=some ⟨16,[.tmp 1],A.b76⟩:=by kernel_rfl
def A.k76:=@A.kk 76 _ _ _ A.c76 rfl
def A.b77:Zae:=sr [mc 1 0]
 (.seq (.regD [ld 2 0,ld 3 0,⟨(some 4),.iaddrSl 1 (.tmp 3) (.const (.int .i64 0)),none⟩,ld 5 4,ln 6 5,c2 7 78 2 6,mv 1 7] [0,0,2,6,14,31,63])
 (.ret))
theorem A.c77:Zal Tryz.prog 77=some ⟨8,[.tmp 1],A.b77⟩:=by kernel_rfl
def A.k77:=@A.kk 77 _ _ _ A.c77 rfl
def A.b79:Zae:=sr [mc 2 0]
 (sr [ld 3 0,ld 4 1,ln 5 4,c2 6 68 3 5,mv 2 6]
 (.ret))
theorem A.c79:Zal Tryz.prog 79=some ⟨7,[.tmp 2],A.b79⟩:=by kernel_rfl
def A.k79:=@A.kk 79 _ _ _ A.c79 rfl
def A.b81:Zae:=sr [mc 1 0]
 (sr [ld 2 0,c1 3 66 2,mv 1 3]
 (.ret))
theorem A.c81:Zal Tryz.prog 81=some ⟨4,[.tmp 1],A.b81⟩:=by kernel_rfl
def A.k81:=@A.kk 81 _ _ _ A.c81 rfl
def A.b82:Zae:=sr [mc 2 0]
 (.seq (.regD [ld 3 0,ln 4 3,ld 5 1,⟨(some 6),.iaddrSl 1 (.tmp 5) (.const (.int .i64 0)),none⟩,ld 7 6,ln 8 7,⟨(some 9),.bin .neq (.prim .int) false (.tmp 4) (.tmp 8),none⟩,⟨(some 10),.call (.const (.func 75 [] [])) [(.tmp 9),(.const (.int .i64 2))],none⟩,mv 2 10] [0,1,0,4,12,28,63,127,255])
 (.ret))
theorem A.c82:Zal Tryz.prog 82=some ⟨11,[.tmp 2],A.b82⟩:=by kernel_rfl
def A.k82:=@A.kk 82 _ _ _ A.c82 rfl
def A.b83:Zae:=sr [mc 1 0]
 (.seq (.regD [ld 2 0,⟨(some 3),.call (.const (.func 85 [] [])) [(.const (.int .i64 0))],none⟩,c2 4 84 2 3,mv 1 4] [0,0,3,7])
 (.ret))
theorem A.c83:Zal Tryz.prog 83=some ⟨5,[.tmp 1],A.b83⟩:=by kernel_rfl
def A.k83:=@A.kk 83 _ _ _ A.c83 rfl
theorem Zp2{fs:List V}{l:List Int}(hs:Sl h N v fs)(hlen0:fs.length=l.length)(hl:l.length<1000)(hf:∀(j:Nat) (f:V) (e:Int),fs[j]?=some f→l[j]?=some e→(∀(i:Nat) (x:Int),i<j→l[i]?=some x→x=0)→∀h' n',Keeps h N h' n'→FnV A.C f [] h' n' (fun u _ _=>u=.int .i64 e)):Fn A.C 64 [v] h N (fun u _ _=>u=.int .i64 (Zak l)):=by
 intro w
 have hlen:=hs.len
 rw[hlen0]at hlen
 rw[Zab,A.k64 (by simp)]
 simp[A.b64,hlen]
 refine Zaj [(2,2),(4,5),(8,17)] (fun e r st=>Zaa N st.w=[]∧Keeps h N st.h st.n∧((e=.exit 0∧Zak l=0)∨(e=.ret∧r.get 2=some (.int .i64 (Zak l))))) (fun m r st=>Zaa N st.w=[]∧Keeps h N st.h st.n∧∃k,k+m=l.length∧r.get 8=some (.int .i64 k)∧Zak l=Zak (l.drop k)∧∀(i:Nat) (x:Int),i<k→l[i]?=some x→x=0) l.length ?_ ?_ ?_
 ·exact⟨by simp,Keeps.refl,0,by omega,by simp,by simp,fun i x hi=>by omega⟩
 ·rintro m r ⟨H,n1,W⟩ hr hf2 ⟨hW,hK,k,hk,h7,hz,h00⟩
  simp only at hW hK
  rw[Zah]
  cases m with
  |zero=>
   obtain rfl:k=l.length:=by omega
   rw[List.drop_length,Zak]at hz
   simp[A.lb64_0,hr,hf2,h7,hz,hW,hK]
  |succ m=>
   have hlt:k<l.length:=by omega
   obtain⟨s,hc⟩:=Zag hlt
   obtain⟨f,hfk⟩:=Zag (show k<fs.length by omega)
   obtain⟨i,o,cc,e,rw,q1,q2,q3,q4⟩:=(hs.keep hK).at hfk
   rw[Zaq hc,Zak]at hz
   have hk1:(k:Int)<(l.length:Int):=by omega
   simp[A.lb64_0,hr,h7,hk1,hlen,q1,q3,q4]
   refine Zkn (hf k f s hfk hc h00 _ _ hK) ?_
   rintro _ h3 n3 k3 rfl
   have kk:=hK.trans k3
   by_cases h0:s=0
   ·rw[if_pos h0]at hz
    simp(disch:=first|(simp;done)|omega|rfl) [hf2,h7,h0,hW]
    refine⟨m,by omega,kk,k+1,by omega,by simp,hz,fun i x hi hx=>?_⟩
    by_cases hik:i<k
    ·exact h00 i x hik hx
    ·obtain rfl:i=k:=by omega
     rw[hc]at hx
     rw[←h0]
     simpa using hx.symm
   ·rw[if_neg h0]at hz
    simp[hf2,h0,hW,hz]
    exact kk
 ·rintro _ r ⟨H,n1,W⟩ hr ⟨hW,hK,⟨rfl,hz⟩|⟨rfl,h2⟩⟩
  ·simp only at hW hK
   simp[hz,Ret,hW,hK]
  ·simp only at hW hK
   simp[h2,Ret,hW,hK]
theorem Yk1{l:List Str}{eq:TypeId}(hgq:h.get q=some (.cells [u] eq wq))(hlq:q<N)(hs:MtS h N u m)(hml:m.length<100000)(hmx:∀x∈m,x.length<100000∧∀s∈x,s.length≤100000):FnV A.C (.func 65 [] [.ptr q 0]) [] h N (fun z _ _=>z=.int .i64 (Zhy m 64 64)):=by
 intro w
 rw[Zab,A.k65 (by simp)]
 simp[A.b65,hgq]
 refine Zac (Zuv hs hml hmx) ?_
 rintro _ H2 n2 k2 rfl
 simp[Ret]
 exact k2
theorem Yk0{p:Nat}{eq:TypeId}(hgp:h.get p=some (.cells [v] ep wp))(hlp:p<N)(hgq:h.get q=some (.cells [u] eq wq))(hlq:q<N)(hs:MtS h N u m)(hml:m.length<100000)(hmx:∀x∈m,x.length<100000∧∀s∈x,s.length≤100000)(ht:Sl h N v (strs l))(hll:l.length<100000)(hlx:∀s∈l,s.length≤100000)(m0:0<m.length):FnV A.C (.func 67 [] [.ptr p 0,.ptr q 0]) [] h N (fun z _ _=>z=.int .i64 (Zbx l (hdL m))):=by
 intro w
 have ml:=hs.len
 have cpos':0<(m.length:Int):=by omega
 obtain⟨l0,hl0⟩:=Zag m0
 obtain⟨i0,o0,cc0,e0,rw0,u0,z1,z2,z3,z4,z5⟩:=hs.at hl0
 have z6:=z5.len
 rw[Zbn]at z6
 rw[Nat.add_zero]at z4
 obtain⟨n,hn⟩:∃n,n=l0.length:=⟨_,rfl⟩
 have en:hdL m=n:=by simp[hdL,hl0,hn]
 rw[en]
 rw[←hn]at z6
 rw[Zab,A.k67 (by simp)]
 simp[A.b67,hgq,hgp,ml,m0,z1,z2,z3,z4,z6]
 refine Zac (Zjm ht hll hlx) ?_
 rintro _ H2 n2 k2 rfl
 have kle:=k2.le
 simp[]
 refine(Zdk (by simp[-Zaa,hlq,hlp])).2 ?_
 simp[Ret]
 exact k2
theorem Yko{l:List Str}{eq:TypeId}(hgq:h.get q=some (.cells [u] eq wq))(hlq:q<N)(hs:MtS h N u m)(hml:m.length<100000)(hmx:∀x∈m,x.length<100000∧∀s∈x,s.length≤100000):FnV A.C (.func 73 [] [.ptr q 0]) [] h N (fun z _ _=>z=.int .i64 (Zak [if m.length=0 then 12 else 0,if 16<m.length then 5 else 0])):=by
 intro w
 have ml:=hs.len
 rw[Zab,A.k73 (by simp)]
 have e1:((m.length:Int)=0)=(m.length=0):=by apply propext;omega
 have e2:(16<(m.length:Int))=(16<m.length):=by apply propext;omega
 simp[A.b73,hgq,ml,Zkj,splice,Zzz,e2]
 refine(Zdk (by simp[-Zaa,hlq])).2 ?_
 simp[Ret]
 exact Keeps.refl.new _
theorem Ykn{l:List Str}{eq:TypeId}(hgq:h.get q=some (.cells [u] eq wq))(hlq:q<N)(hs:MtS h N u m)(hml:m.length<100000)(hmx:∀x∈m,x.length<100000∧∀s∈x,s.length≤100000)(m0:0<m.length):FnV A.C (.func 76 [] [.ptr q 0]) [] h N (fun z _ _=>z=.int .i64 (Zak [if hdL m=0 then 12 else 0,if 16<hdL m then 5 else 0])):=by
 intro w
 have ml:=hs.len
 have cpos':0<(m.length:Int):=by omega
 obtain⟨l0,hl0⟩:=Zag m0
 obtain⟨i0,o0,cc0,e0,rw0,u0,z1,z2,z3,z4,z5⟩:=hs.at hl0
 have z6:=z5.len
 rw[Zbn]at z6
 rw[Nat.add_zero]at z4
 obtain⟨n,hn⟩:∃n,n=l0.length:=⟨_,rfl⟩
 have en:hdL m=n:=by simp[hdL,hl0,hn]
 rw[en]
 rw[←hn]at z6
 rw[Zab,A.k76 (by simp)]
 have e1:((n:Int)=0)=(n=0):=by apply propext;omega
 have e2:(16<(n:Int))=(16<n):=by apply propext;omega
 simp[A.b76,hgq,ml,m0,z1,z2,z3,z4,z6,Zkj,splice,Zzz,e2]
 refine(Zdk (by simp[-Zaa,hlq])).2 ?_
 simp[Ret]
 exact Keeps.refl.new _
theorem Ykm{l:List Str}{eq:TypeId}(hgq:h.get q=some (.cells [u] eq wq))(hlq:q<N)(hs:MtS h N u m)(hml:m.length<100000)(hmx:∀x∈m,x.length<100000∧∀s∈x,s.length≤100000)(m0:0<m.length):FnV A.C (.func 77 [] [.ptr q 0]) [] h N (fun z _ _=>z=.int .i64 (Zak (m.map fun x=>Zbx x (hdL m)))):=by
 intro w
 have ml:=hs.len
 have cpos':0<(m.length:Int):=by omega
 obtain⟨l0,hl0⟩:=Zag m0
 obtain⟨i0,o0,cc0,e0,rw0,u0,z1,z2,z3,z4,z5⟩:=hs.at hl0
 have z6:=z5.len
 rw[Zbn]at z6
 rw[Nat.add_zero]at z4
 obtain⟨n,hn⟩:∃n,n=l0.length:=⟨_,rfl⟩
 have en:hdL m=n:=by simp[hdL,hl0,hn]
 rw[en]
 rw[←hn]at z6
 rw[Zab,A.k77 (by simp)]
 simp[A.b77,hgq,ml,m0,z1,z2,z3,z4,z6]
 refine Zac (Yd8 hs hml hmx) ?_
 rintro _ H2 n2 k2 rfl
 have kle:=k2.le
 simp[]
 refine(Zdk (by simp[-Zaa,hlq])).2 ?_
 simp[Ret]
 exact k2
theorem Ykl{p:Nat}{eq:TypeId}(hgp:h.get p=some (.cells [v] ep wp))(hlp:p<N)(hgq:h.get q=some (.cells [u] eq wq))(hlq:q<N)(hs:MtS h N u m)(hml:m.length<100000)(hmx:∀x∈m,x.length<100000∧∀s∈x,s.length≤100000)(ht:Sl h N v (strs l))(hll:l.length<100000)(hlx:∀s∈l,s.length≤100000):FnV A.C (.func 79 [] [.ptr p 0,.ptr q 0]) [] h N (fun z _ _=>z=.int .i64 (Zbx l m.length)):=by
 intro w
 have ml:=hs.len
 rw[Zab,A.k79 (by simp)]
 simp[A.b79,hgq,hgp,ml]
 refine Zac (Zjm ht hll hlx) ?_
 rintro _ H2 n2 k2 rfl
 simp[Ret]
 exact k2
theorem Yi2{l:List Str}{eq:TypeId}(hgq:h.get q=some (.cells [u] eq wq))(hlq:q<N)(hs:MtS h N u m)(hml:m.length<100000)(hmx:∀x∈m,x.length<100000∧∀s∈x,s.length≤100000):FnV A.C (.func 81 [] [.ptr q 0]) [] h N (fun z _ _=>z=.int .i64 (Zhy m 64 64)):=by
 intro w
 rw[Zab,A.k81 (by simp)]
 simp[A.b81,hgq]
 refine Zac (Zuv hs hml hmx) ?_
 rintro _ H2 n2 k2 rfl
 simp[Ret]
 exact k2
theorem Yi1{p:Nat}{eq:TypeId}(hgp:h.get p=some (.cells [v] ep wp))(hlp:p<N)(hgq:h.get q=some (.cells [u] eq wq))(hlq:q<N)(hs:MtS h N u m)(hml:m.length<100000)(hmx:∀x∈m,x.length<100000∧∀s∈x,s.length≤100000)(ht:Sl h N v (strs l))(hll:l.length<100000)(hlx:∀s∈l,s.length≤100000)(m0:0<m.length):FnV A.C (.func 82 [] [.ptr p 0,.ptr q 0]) [] h N (fun z _ _=>z=.int .i64 (if l.length=hdL m then 0 else 2)):=by
 intro w
 have ml:=hs.len
 have ll:=ht.len
 rw[Zbn]at ll
 have cpos':0<(m.length:Int):=by omega
 obtain⟨l0,hl0⟩:=Zag m0
 obtain⟨i0,o0,cc0,e0,rw0,u0,z1,z2,z3,z4,z5⟩:=hs.at hl0
 have z6:=z5.len
 rw[Zbn]at z6
 rw[Nat.add_zero]at z4
 obtain⟨n,hn⟩:∃n,n=l0.length:=⟨_,rfl⟩
 have en:hdL m=n:=by simp[hdL,hl0,hn]
 rw[en]
 rw[←hn]at z6
 rw[Zab,A.k82 (by simp)]
 have e1:((l.length:Int)=(n:Int))=(l.length=n):=by apply propext;omega
 by_cases c:l.length=n
 ·subst c
  simp[A.b82,hgq,hgp,ml,ll,m0,z1,z2,z3,z4,z6,Zkj]
  refine(Zdk (by simp[-Zaa,hlq,hlp])).2 ?_
  simp[Ret]
  exact Keeps.refl
 ·simp[A.b82,hgq,hgp,ml,ll,m0,z1,z2,z3,z4,z6,Zkj,e1,c]
  refine(Zdk (by simp[-Zaa,hlq,hlp])).2 ?_
  simp[Ret]
  exact Keeps.refl
theorem Yi0{p:Nat}{m:List (List Str)}(hgp:h.get p=some (.cells [v] ep wp))(hlp:p<N)(ht:Sl h N v (strs l))(hll:l.length<100000)(hlx:∀s∈l,s.length≤100000):FnV A.C (.func 83 [] [.ptr p 0]) [] h N (fun z _ _=>z=.int .i64 (Zak (l.map (Zep 0)))):=by
 intro w
 have sg:∀w,A.C.call (.func 85 [] []) [.int .i64 0] ⟨h,N,w⟩=some (.func 155 [] [.ptr N 0],⟨h.set N (.cells [.int .i64 0] 3 true),N+1,w⟩):=fun w=>by
  apply Call.eq
  rw[Zab,A.k85 (by simp)]
  simp[A.b85]
 rw[Zab,A.k83 (by simp)]
 simp[A.b83,hgp,sg]
 have k1:Keeps h N (h.set N (.cells [.int .i64 0] 3 true)) (N+1):=Keeps.refl.new _
 refine Zac (Ybx (Zep 0) (ht.keep k1) hll fun s hs h' n' hk=>Zwh (z:=0) (e:=3) (rw:=true) (by rw[hk.get N (by omega)];simp) (by have:=hk.le;omega) (hlx s hs)) ?_
 rintro _ H2 n2 k2 rfl
 have kle:=k2.le
 have d4:N<n2:=by omega
 simp[]
 refine(Zdk (by simp[-Zaa,hlp])).2 ?_
 simp[Ret]
 exact k1.trans k2
end Go.Mx
namespace Go.Mx
open Go Go.Proofs
variable {N n n':Nat} {h h':T O} {l:List Rat} {u v:V}
set_option maxRecDepth 1000000
def A.lb154_0:Zae:=sr [bi 11 .lss 10 9]
 (.seq (cd 11
 (.skip)
 (.exit 0))
 (.seq (.block 1 (sr [ia 12 1 8 10,ld 13 12,mv 7 13]
 (.reg [mv 14 5,mv 15 1,mv 16 7,⟨(some 17),.call (.tmp 15) [(.tmp 16)],none⟩,⟨(some 18),.bslice 97 1 1 [.nilslice] [(0,1,(.tmp 17))],none⟩,⟨(some 19),.append 1 24 97 [.nilslice] (.tmp 14) (.tmp 18),none⟩,mv 5 19])))
 (.reg [bc 20 .add 10 1,mv 10 20])))
def A.b154:Zae:=sr [mN 4]
 (sr [mN 5]
 (.seq (sr [mv 8 0,ln 9 8,mc 10 0]
 (.block 0 (.loop A.lb154_0)))
 (sr [mv 21 5,mv 4 21]
 (.ret))))
theorem A.c154:Zal Tryz.prog 154=some ⟨22,[.tmp 4],A.b154⟩:=by kernel_rfl
def A.k154:=@A.kk 154 _ _ _ A.c154 rfl
theorem Ye1{f:V}{l:List V}{Q:Nat→T O→Nat→V→Prop}(Y:V→Prop)(hQ:∀j h n h' n' c u,Q j h n c→Upd (fun i=>i∈Zev u) h n h' n'→Zys 97 Y h u→Q j h' n' c)(hs:Sl h N v l)(hl:l.length<1000000)(hf:∀(j:Nat) (x:V),l[j]?=some x→∀h' n',Keeps h N h' n'→FnV A.C f [x] h' n' (fun u h2 n2=>∃y,u=y∧[y].length=1∧[y].all V.one=true∧(∀q∈[y],Y q)∧Q j h2 n2 y)):Fn A.C 154 [v,f] h N (fun u h' n'=>∃out,Own 1 97 N h' n' u out∧out.length=l.length∧∀(j:Nat),j<l.length→∃y,out[j]?=some [y]∧Q j h' n' y):=by
 intro w
 have hlen:=hs.len
 rw[Zab,A.k154 (by simp)]
 simp[A.b154,hlen]
 refine Zaj [(5,5),(7,7),(10,20)] (fun e r st=>e=.exit 0∧Zaa N st.w=[]∧Keeps h N st.h st.n∧∃u out,r.get 5=some u∧Own 1 97 N st.h st.n u out∧out.length=l.length∧∀(j:Nat),j<l.length→∃y,out[j]?=some [y]∧Q j st.h st.n y) (fun m r st=>Zaa N st.w=[]∧Keeps h N st.h st.n∧∃k u out,k+m=l.length∧r.get 10=some (.int .i64 k)∧r.get 5=some u∧Own 1 97 N st.h st.n u out∧out.length=k∧(out=[]→u=.nilslice)∧(∀c∈out,∀y∈c,Y y)∧∀(j:Nat),j<k→∃y,out[j]?=some [y]∧Q j st.h st.n y) l.length ?_ ?_ ?_
 ·exact⟨by simp,Keeps.refl,0,.nilslice,[],by omega,by simp,by simp,Own.nil,rfl,fun _=>rfl,by simp,fun j hj=>by omega⟩
 ·rintro m r ⟨H,n1,W⟩ hr hf2 ⟨hW,hK,k,u,out,hk,h10,h5,ho,hol,hnil,hY,hout⟩
  simp only at hW hK ho hout
  rw[Zah]
  cases m with
  |zero=>
   have hkk:k=l.length:=by omega
   subst hkk
   simp[A.lb154_0,hr,hf2,h10,hW,hK]
   exact⟨u,h5,out,ho,hol,hout⟩
  |succ m=>
   have hlt:k<l.length:=by omega
   obtain⟨x,hx⟩:=Zag hlt
   obtain⟨i,o,cc,e,rw,q1,q2,q3,q4⟩:=(hs.keep hK).at hx
   have hk1:(k:Int)<(l.length:Int):=by omega
   have kA:=hK
   simp[A.lb154_0,hr,h10,h5,hk1,hlen,q1,q3,q4]
   refine Zkn (hf k x hx _ _ kA) ?_
   rintro y h3 n3 k3 ⟨_,rfl,c1,c2,cY,c3⟩
   have kle3:=k3.le
   have kn:=hK.le
   have kB:=kA.trans k3
   have b1:V.one y=true:=by simpa using c2
   have b2:V.cells y=[y]:=by cases y<;>first|rfl|cases b1
   simp[-V.cells, -V.one,b1,b2,splice]
   have ho3:Own 1 97 N (h3.set n3 (.cells [y] 97 true)) (n3+1) u out:=(ho.keep ((Keeps.refl).trans k3)).keep (Keeps.refl.new _)
   obtain⟨v',h',w',f1,f2,f3,f4,fD,f5⟩:=Zgm (Y:=Y) (x:=[y]) (u:=.slice n3 0 1 (some 1) 1) (bytes:=24) (w:=W) ho3 hnil hY (by omega) (by decide) c1 (by simp[Za0,St.row,slc]) (by omega)
   rw[f1]
   have wok:¬n1<N:=by omega
   have f6:Zaa N w'=[]:=by rw[f2];simp[hW]
   have kz:=(kB.new (.cells [y] 97 true)).then f3
   have k4:Keeps h3 n3 (h3.set n3 (.cells [y] 97 true)) (n3+1):=Keeps.refl.new _
   have hq4:Q k (h3.set n3 (.cells [y] 97 true)) (n3+1) y:=hQ _ _ _ _ _ _ .nilslice c3 k4.upd Zys.nil
   simp(disch:=first|(simp;done)|omega|rfl) [hf2,h10,f6]
   refine⟨m,by omega,kz,k+1,by omega,by simp,out++[[y]],f5,by simp[hol],by simp,fun c' hc z hz=>?_,fun j hj=>?_⟩
   ·rcases List.mem_append.1 hc with hc|hc
    ·exact hY c' hc z hz
    ·simp only[List.mem_singleton]at hc;subst hc;exact cY z hz
   by_cases hjk:j<k
   ·obtain⟨y,g1,g2⟩:=hout j hjk
    exact⟨y,by rw[List.getElem?_append_left (by omega)];exact g1,hQ _ _ _ _ _ _ _ (hQ _ _ _ _ _ _ .nilslice g2 (((Keeps.refl).trans k3).trans k4).upd Zys.nil) f4 fD⟩
   ·obtain rfl:j=k:=by omega
    exact⟨y,by rw[List.getElem?_append_right (by omega),hol];simp,hQ _ _ _ _ _ _ _ hq4 f4 fD⟩
 ·rintro _ r ⟨H,n1,W⟩ hr ⟨rfl,hW,hK,u,out,h5,ho,hol,hout⟩
  simp only at hW hK ho hout
  simp[h5,Ret,hW,hK]
  exact⟨out,ho,hol,hout⟩
def A.lb86_0:Zae:=sr [bi 11 .lss 10 9]
 (.seq (cd 11
 (.skip)
 (.exit 0))
 (.seq (.block 1 (sr [ia 12 1 8 10,ld 13 12,mv 7 13]
 (.reg [mv 14 5,mv 15 1,mv 16 7,⟨(some 17),.call (.tmp 15) [(.tmp 16)],none⟩,⟨(some 18),.bslice 114 4 1 [(.int .i64 0),.nilslice,(.int .i64 0),.nilslice] [(0,4,(.tmp 17))],none⟩,⟨(some 19),.append 4 64 114 [(.int .i64 0),.nilslice,(.int .i64 0),.nilslice] (.tmp 14) (.tmp 18),none⟩,mv 5 19])))
 (.reg [bc 20 .add 10 1,mv 10 20])))
def A.b86:Zae:=sr [mN 4]
 (sr [mN 5]
 (.seq (sr [mv 8 0,ln 9 8,mc 10 0]
 (.block 0 (.loop A.lb86_0)))
 (sr [mv 21 5,mv 4 21]
 (.ret))))
theorem A.c86:Zal Tryz.prog 86=some ⟨22,[.tmp 4],A.b86⟩:=by kernel_rfl
def A.k86:=@A.kk 86 _ _ _ A.c86 rfl
theorem Ye2{f:V}{l:List V}{Q:Nat→T O→Nat→List V→Prop}(Y:V→Prop)(hQ:∀j h n h' n' c u,Q j h n c→Upd (fun i=>i∈Zev u) h n h' n'→Zys 114 Y h u→Q j h' n' c)(hs:Sl h N v l)(hl:l.length<1000000)(hf:∀(j:Nat) (x:V),l[j]?=some x→∀h' n',Keeps h N h' n'→FnV A.C f [x] h' n' (fun u h2 n2=>∃c,u=(.agg c)∧c.length=4∧c.all V.one=true∧(∀q∈c,Y q)∧Q j h2 n2 c)):Fn A.C 86 [v,f] h N (fun u h' n'=>∃out,Own 4 114 N h' n' u out∧out.length=l.length∧∀(j:Nat),j<l.length→∃c,out[j]?=some c∧Q j h' n' c):=by
 intro w
 have hlen:=hs.len
 rw[Zab,A.k86 (by simp)]
 simp[A.b86,hlen]
 refine Zaj [(5,5),(7,7),(10,20)] (fun e r st=>e=.exit 0∧Zaa N st.w=[]∧Keeps h N st.h st.n∧∃u out,r.get 5=some u∧Own 4 114 N st.h st.n u out∧out.length=l.length∧∀(j:Nat),j<l.length→∃c,out[j]?=some c∧Q j st.h st.n c) (fun m r st=>Zaa N st.w=[]∧Keeps h N st.h st.n∧∃k u out,k+m=l.length∧r.get 10=some (.int .i64 k)∧r.get 5=some u∧Own 4 114 N st.h st.n u out∧out.length=k∧(out=[]→u=.nilslice)∧(∀c∈out,∀y∈c,Y y)∧∀(j:Nat),j<k→∃c,out[j]?=some c∧Q j st.h st.n c) l.length ?_ ?_ ?_
 ·exact⟨by simp,Keeps.refl,0,.nilslice,[],by omega,by simp,by simp,Own.nil,rfl,fun _=>rfl,by simp,fun j hj=>by omega⟩
 ·rintro m r ⟨H,n1,W⟩ hr hf2 ⟨hW,hK,k,u,out,hk,h10,h5,ho,hol,hnil,hY,hout⟩
  simp only at hW hK ho hout
  rw[Zah]
  cases m with
  |zero=>
   have hkk:k=l.length:=by omega
   subst hkk
   simp[A.lb86_0,hr,hf2,h10,hW,hK]
   exact⟨u,h5,out,ho,hol,hout⟩
  |succ m=>
   have hlt:k<l.length:=by omega
   obtain⟨x,hx⟩:=Zag hlt
   obtain⟨i,o,cc,e,rw,q1,q2,q3,q4⟩:=(hs.keep hK).at hx
   have hk1:(k:Int)<(l.length:Int):=by omega
   have kA:=hK
   simp[A.lb86_0,hr,h10,h5,hk1,hlen,q1,q3,q4]
   refine Zkn (hf k x hx _ _ kA) ?_
   rintro _ h3 n3 k3 ⟨c,rfl,c1,c2,cY,c3⟩
   have kle3:=k3.le
   have kn:=hK.le
   have kB:=kA.trans k3
   have b1:∀v:List V,(V.agg v).cells=v:=fun _=>rfl
   have b2:splice [(.int .i64 0),.nilslice,(.int .i64 0),.nilslice] 0 c=c:=by unfold splice;rw[c1];simp
   simp[-V.cells, -V.one,b1,b2,c1,c2]
   have ho3:Own 4 114 N (h3.set n3 (.cells c 114 true)) (n3+1) u out:=(ho.keep ((Keeps.refl).trans k3)).keep (Keeps.refl.new _)
   obtain⟨v',h',w',f1,f2,f3,f4,fD,f5⟩:=Zgm (Y:=Y) (x:=c) (u:=.slice n3 0 1 (some 1) 4) (bytes:=64) (w:=W) ho3 hnil hY (by omega) (by decide) c1 (by simp only[Za0,St.row,T.get_set,if_true];unfold slc;simp[c1];exact List.take_of_length_le (by omega)) (by omega)
   rw[f1]
   have wok:¬n1<N:=by omega
   have f6:Zaa N w'=[]:=by rw[f2];simp[hW]
   have kz:=(kB.new (.cells c 114 true)).then f3
   have k4:Keeps h3 n3 (h3.set n3 (.cells c 114 true)) (n3+1):=Keeps.refl.new _
   have hq4:Q k (h3.set n3 (.cells c 114 true)) (n3+1) c:=hQ _ _ _ _ _ _ .nilslice c3 k4.upd Zys.nil
   simp(disch:=first|(simp;done)|omega|rfl) [hf2,h10,f6]
   refine⟨m,by omega,kz,k+1,by omega,by simp,out++[c],f5,by simp[hol],by simp,fun c' hc z hz=>?_,fun j hj=>?_⟩
   ·rcases List.mem_append.1 hc with hc|hc
    ·exact hY c' hc z hz
    ·simp only[List.mem_singleton]at hc;subst hc;exact cY z hz
   by_cases hjk:j<k
   ·obtain⟨c,g1,g2⟩:=hout j hjk
    exact⟨c,by rw[List.getElem?_append_left (by omega)];exact g1,hQ _ _ _ _ _ _ _ (hQ _ _ _ _ _ _ .nilslice g2 (((Keeps.refl).trans k3).trans k4).upd Zys.nil) f4 fD⟩
   ·obtain rfl:j=k:=by omega
    exact⟨c,by rw[List.getElem?_append_right (by omega),hol];simp,hQ _ _ _ _ _ _ _ hq4 f4 fD⟩
 ·rintro _ r ⟨H,n1,W⟩ hr ⟨rfl,hW,hK,u,out,h5,ho,hol,hout⟩
  simp only at hW hK ho hout
  simp[h5,Ret,hW,hK]
  exact⟨out,ho,hol,hout⟩
def A.lb88_0:Zae:=sr [bi 11 .lss 10 9]
 (.seq (cd 11
 (.skip)
 (.exit 0))
 (.seq (.block 1 (sr [mv 12 10,mv 6 12]
 (.regD [lN 13 4 5,mv 14 0,mv 15 6,ia 16 4 14 15,lN 17 4 16,mv 18 1,mv 19 6,ia 20 4 18 19,lN 21 4 20,c2 22 90 17 21,c2 23 120 13 22,⟨none,.store 4 (.tmp 5) (.tmp 23),none⟩] [0,0,0,6,14,0,0,96,224,510,1023,2047])))
 (.reg [bc 24 .add 10 1,mv 10 24])))
def A.b88:Zae:=sr [⟨(some 4),.alloc [(.int .i64 0),.nilslice,(.int .i64 0),.nilslice] 114,none⟩]
 (sr [⟨(some 7),.call (.const (.func 118 [] [])) [(.const (.int .i64 0))],none⟩,⟨(some 5),.alloc [(.int .i64 0),.nilslice,(.int .i64 0),.nilslice] 114,none⟩,⟨none,.store 4 (.tmp 5) (.tmp 7),none⟩]
 (.seq (sr [mv 8 0,ln 9 8,mc 10 0]
 (.block 0 (.loop A.lb88_0)))
 (sr [lN 25 4 5,⟨none,.store 4 (.tmp 4) (.tmp 25),none⟩]
 (.ret))))
theorem A.c88:Zal Tryz.prog 88=some ⟨26,[.cell 4 (some 4)],A.b88⟩:=by kernel_rfl
def A.k88:=@A.kk 88 _ _ _ A.c88 rfl
def A.b153:Zae:=sr [⟨(some 4),.alloc [(.int .i64 0),.nilslice,(.int .i64 0),.nilslice] 114,none⟩]
 (sr [mv 5 1,mv 6 0,c2 7 88 5 6,⟨none,.store 4 (.tmp 4) (.tmp 7),none⟩]
 (.ret))
theorem A.c153:Zal Tryz.prog 153=some ⟨8,[.cell 4 (some 4)],A.b153⟩:=by kernel_rfl
def A.k153:=@A.kk 153 _ _ _ A.c153 rfl
abbrev NW(y:V):Prop:=∀m,y≠.int .u64 m
theorem In.moved{x:V}{z:Int}{e:TypeId}(s:In h n x z)(k:Upd (fun i=>i∈Zev v) h n h' n')(hd:Zys e NW h v):In h' n' x z:=by
 rcases s with s|⟨i,o,l,c,s1,s2,s3⟩
 ·exact .inl s
 ·refine .inr ⟨i,o,l,c,s1,Sl.moved s2 k fun j hj hjv=>?_,s3⟩
  simp[Zev]at hj
  subst hj
  obtain⟨z2,g1,_,g3⟩:=hd j hjv
  unfold Wn at s2
  have hne:wds z.natAbs≠[]:=fun h0=>by
   have:=Zbq z.natAbs
   rw[h0]at this
   simp[val]at this
   omega
  obtain⟨d,ds,hds⟩:=List.exists_cons_of_ne_nil hne
  have hat:(dg (wds z.natAbs))[0]?=some (.int .u64 d):=by rw[hds];simp[dg]
  obtain⟨i2,o2,c2,e2,rw2,q1,q2,q3,q4⟩:=Sl.at s2 hat
  simp[Znn]at q1
  obtain⟨rfl,rfl⟩:=q1
  rw[g1]at q3
  simp only[Option.some.injEq,O.cells.injEq]at q3
  obtain⟨rfl,_⟩:=q3
  exact g3 _ (List.mem_of_getElem? q4) _ rfl
theorem FcC.moved{c:List V}{q:Rat}{e:TypeId}(s:FcC h n c q)(k:Upd (fun i=>i∈Zev v) h n h' n')(hd:Zys e NW h v):FcC h' n' c q:=by
 obtain⟨n1,u1,n2,u2,rfl,s1,s2⟩:=s
 exact⟨n1,u1,n2,u2,rfl,s1.moved k hd,s2.moved k hd⟩
theorem Sn.row_lt{z:Nat}{l:List (List V)}(s:Sn z h N v l):∀i∈Zev v,i<N:=fun i hi=>by
 rcases s with⟨_,rfl|rfl⟩|⟨j,o,cp,c,e,rw,rfl,hj,_⟩
 ·simp[Zev]at hi
 ·simp[Zev]at hi
 ·simp[Zev]at hi;omega
theorem Sn.moved{z:Nat}{D:Nat→Prop}{N':Nat}{l:List (List V)}(s:Sn z h N v l)(k:Upd D h N h' N')(hd:∀i∈Zev v,¬D i):Sn z h' N' v l:=by
 rcases s with s|⟨i,o,cp,c,e,rw,rfl,h2,h3,h4⟩
 ·exact .inl s
 ·exact .inr ⟨i,o,cp,c,e,rw,rfl,Nat.lt_of_lt_of_le h2 k.le,(k.get i h2 (hd i (by simp[Zev]))).trans h3,h4⟩
theorem FrT.keep{N':Nat}(s:FrT h N u l)(k:Keeps h N h' N'):FrT h' N' u l:=⟨s.1.keep k,fun i hi=>by
 obtain⟨cs,h1,_⟩:=s.1
 rw[k.get i (h1.row_lt i hi)]
 exact s.2 i hi⟩
theorem FrT.moved{e:TypeId}(s:FrT h n u l)(k:Upd (fun i=>i∈Zev v) h n h' n')(hd:Zys e NW h v)(he:e≠114):FrT h' n' u l:=by
 obtain⟨⟨cs,h1,h2,h3⟩,h4⟩:=s
 have hn:∀i∈Zev u,i∉Zev v:=fun i hi hc=>by
  obtain⟨z,w,hz⟩:=h4 i hi
  obtain⟨z2,hz2,_⟩:=hd i hc
  rw[hz]at hz2
  simp at hz2
  exact he hz2.2.1.symm
 refine⟨⟨cs,h1.moved k hn,h2,fun j q hq=>?_⟩,fun i hi=>by rw[k.get i (h1.row_lt i hi) (hn i hi)];exact h4 i hi⟩
 obtain⟨c,g1,g2⟩:=h3 j q hq
 exact⟨c,g1,g2.moved k hd⟩
theorem Yl2{N0:Nat}{out:List (List V)}(s:Own 4 114 N0 h N v out)(hl:out.length=l.length)(hc:∀(j:Nat),j<l.length→∃c,out[j]?=some c∧∀q,l[j]?=some q→FcC h N c q):FrT h N v l:=by
 refine⟨⟨out,s.sn,hl,fun j q hq=>?_⟩,fun i hi=>?_⟩
 ·obtain⟨c,g1,g2⟩:=hc j (Zbj hq)
  exact⟨c,g1,g2 q hq⟩
 ·obtain⟨_,⟨_,rfl⟩|⟨j,rfl,_,_,hg⟩⟩:=s
  ·simp[Zev]at hi
  ·simp[Zev]at hi;subst hi;exact⟨_,_,hg⟩
structure DtI (h:T O) (N p:Nat) (a b:List Rat) (m:Nat) (r:T V) (st:St):Prop where
 w:Zaa N st.w=[]
 keep:Keeps h N st.h st.n
 ex:∃(t:Nat) (c:List V),t+m=a.length∧r.get 10=some (.int .i64 t)∧p<st.n∧st.h.get N=some (.cells zF 114 true)∧st.h.get p=some (.cells c 114 true)∧FcC st.h st.n c (Zt1 a b t)
set_option maxHeartbeats 2000000 in
theorem Yha{a b:List Rat}{j k:Nat}(hu:FrS h N u a)(hv:FrS h N v b)(hab:a.length≤b.length)(ha:∀q∈a,Qb j q)(hb:∀q∈b,Qb k q)(hj:1≤j)(hk:1≤k)(hl:a.length*(j+k+1)+j+k+1≤400000):Fn A.C 88 [u,v] h N (fun x h' n'=>Fc h' n' x (Zke a b)):=by
 intro w
 have l1:=hu.len
 have l2:=hv.len
 have hal:a.length≤400000:=by have:=Nat.le_mul_of_pos_right a.length (show 0<j+k+1 by omega);omega
 rw[Zab,A.k88 (by simp)]
 simp[A.b88]
 refine Zac (You (by omega) (by omega)) ?_
 rintro _ h1 n1 k1 hz
 obtain⟨c,rfl,hc⟩:=hz.c
 have kB:Keeps h N (h.set N (.cells zF 114 true)) (N+1):=Keeps.refl.new _
 have le1:=k1.le
 have g1:=k1.get N (by omega)
 rw[T.get_set,if_pos rfl]at g1
 obtain⟨e1,e2⟩:=hc.len
 have hcc:(V.agg c).cells=c:=rfl
 have e4:splice zF 0 c=c:=by unfold splice;rw[e1];simp[zF]
 have hnz:NoU zF:=by intro x hx m;simp[zF]at hx;rcases hx with rfl|rfl|rfl|rfl<;>simp
 unfold zF at e4
 simp[-V.cells, -V.one,hcc,e1,e2,e4,Zan,l1]
 generalize hH:(h1.set n1 (.cells [.int .i64 0,.nilslice,.int .i64 0,.nilslice] 114 true)).set n1 (.cells c 114 true)=H1
 have kA:Keeps h1 n1 H1 (n1+1):=by rw[←hH];exact(Keeps.refl.new _).set (Nat.le_refl _)
 have kC:Keeps h N H1 (n1+1):=(kB.trans k1).trans kA
 have g2:H1.get n1=some (.cells c 114 true):=by rw[←hH];simp
 have g3:=(kA.get N (by omega)).trans g1
 clear hH
 refine Zaj [(6,6),(10,24)] (fun e r st=>e=.exit 0∧DtI h N n1 a b 0 r st) (DtI h N n1 a b) a.length ?_ ?_ ?_
 ·exact⟨by simp;omega,kC,0,c,by omega,by simp,by show n1<n1+1;omega,g3,g2,by simpa[Zt1]using hc.keep kA⟩
 ·rintro m r ⟨H,n2,W⟩ hr hf ⟨hW,hK,t,c0,ht,h10,hpn,hg0,hgp,hcp⟩
  simp only at hW hK hpn hg0 hgp hcp
  rw[Zah]
  cases m with
  |zero=>
   obtain rfl:t=a.length:=by omega
   simp[A.lb88_0,hr,hf,h10]
   exact⟨hW,hK,a.length,c0,by omega,by simp[h10],hpn,hg0,hgp,hcp⟩
  |succ m=>
   have hlt:t<a.length:=by omega
   have hlt':(t:Int)<(a.length:Int):=by omega
   have hlb:t<b.length:=by omega
   have hlb':(t:Int)<(b.length:Int):=by omega
   obtain⟨x,hx⟩:=Zag hlt
   obtain⟨y,hy⟩:=Zag hlb
   have hpb:=ha x (List.mem_of_getElem? hx)
   have hqb:=hb y (List.mem_of_getElem? hy)
   have hsb:=Zpr ha hb hj hk t
   have hpq:=hpb.mul hqb
   have hmul:t*(j+k+1)≤a.length*(j+k+1):=Nat.mul_le_mul_right _ (by omega)
   have ee:Zt1 a b (t+1)=Zt1 a b t+x*y:=by simp[Zt1,hx,hy]
   obtain⟨i,o,cc,e,rw,ca,q1,q2,q3,q4,q5⟩:=(hu.keep hK).at hx
   obtain⟨i',o',cc',e',rw',cb,p1,p2,p3,p4,p5⟩:=(hv.keep hK).at hy
   have s0:slc c0 0 4=some c0:=by unfold slc;rw[hcp.len.1];simp;exact List.take_of_length_le (by rw[hcp.len.1];omega)
   simp[A.lb88_0,hr,h10,l1,l2,hlt',hlb',hgp,s0,q1,q2,q3,q4,p1,p2,p3,p4]
   have w1:=Zi2 hpb.1
   have w2:=Zi2 (z:=(x.den:Int)) (k:=j) (by rw[Int.natAbs_natCast];exact hpb.2)
   have w3:=Zi2 hqb.1
   have w4:=Zi2 (z:=(y.den:Int)) (k:=k) (by rw[Int.natAbs_natCast];exact hqb.2)
   have w5:=Zi2 hsb.1
   have w6:=Zi2 (z:=((Zt1 a b t).den:Int)) (by rw[Int.natAbs_natCast];exact hsb.2)
   have w7:=Zi2 hpq.1
   have w8:=Zi2 (z:=((x*y).den:Int)) (by rw[Int.natAbs_natCast];exact hpq.2)
   refine Zac (Ybr q5.fc p5.fc (by omega) (by omega) (by omega) (by omega)) ?_
   rintro x3 h3 n3 k3 hm3
   simp[]
   refine Zac (Yj4 (hcp.keep k3).fc hm3 (by omega) (by omega) (by omega) (by omega)) ?_
   rintro _ h4' n4 k4 hs4
   rw[←ee]at hs4
   obtain⟨c4,rfl,hc4⟩:=hs4.c
   have le3:=k3.le
   have le4:=k4.le
   have gp4:=(k4.get n1 (by omega)).trans ((k3.get n1 (by omega)).trans hgp)
   have g04:=(k4.get N (by omega)).trans ((k3.get N (by omega)).trans hg0)
   obtain⟨f1,f2⟩:=hc4.len
   have f3:=hcp.len.1
   have hcc4:(V.agg c4).cells=c4:=rfl
   have e5:splice c0 0 c4=c4:=by unfold splice;rw[f1];simp[f3]
   simp[-V.cells, -V.one,hr,hcc4,f1,f2,f3,e5,gp4,Zan]
   have d2:n1<n4:=by omega
   have d3:¬N=n1:=by omega
   have d4:¬n1<N:=by omega
   refine(Zdk (by simp[-Zaa,hpn,d2])).2 ?_
   simp(disch:=first|(simp;done)|omega|rfl) [hf,h10,d2]
   exact⟨m,by omega,by simp[Zaa,hW,d4],((hK.trans k3).trans k4).set (by omega),t+1,c4,by omega,by simp,d2,by show T.get _ N=_;rw[T.get_set,if_neg d3];exact g04,by show T.get _ n1=_;rw[T.get_set,if_pos rfl],hc4.setNU gp4 hcp.noU (by rw[f1,f3])⟩
 ·rintro _ r ⟨H,n2,W⟩ hr ⟨rfl,hW,hK,t,c0,ht,h10,hpn,hg0,hgp,hcp⟩
  simp only at hW hK hpn hg0 hgp hcp
  obtain rfl:t=a.length:=by omega
  have s0:slc c0 0 4=some c0:=by unfold slc;rw[hcp.len.1];simp;exact List.take_of_length_le (by rw[hcp.len.1];omega)
  have hcc0:(V.agg c0).cells=c0:=rfl
  have e5:splice zF 0 c0=c0:=by unfold splice;rw[hcp.len.1];simp[zF]
  have f1:=hcp.len.1
  have f2:=hcp.len.2
  unfold zF at e5 hg0
  simp[-V.cells, -V.one,hr,hgp,hg0,s0,Zan,hcc0,f1,f2,e5,Ret]
  exact⟨hW,hK.set (Nat.le_refl N),(hcp.setNU hg0 hnz (by rw[f1];rfl)).fc⟩
end Go.Mx
namespace Go.Mx
open Go Go.Proofs
variable {N k:Nat} {h:T O} {m:List (List Rat)} {u v:V}
set_option maxRecDepth 1000000
def A.b70:Zae:=sr [mN 4]
 (sr [mv 6 1,⟨(some 7),.mkfunc 153 [(.tmp 6)] [],none⟩,mv 5 7]
 (sr [mv 8 0,mv 9 5,c2 10 86 8 9,mv 4 10]
 (.ret)))
theorem A.c70:Zal Tryz.prog 70=some ⟨11,[.tmp 4],A.b70⟩:=by kernel_rfl
def A.k70:=@A.kk 70 _ _ _ A.c70 rfl
def A.b141:Zae:=sr [bx 3 3 1,mN 4]
 (sr [mv 5 0,⟨(some 6),.mkfunc 209 [] [(.tmp 3)],none⟩,c2 7 86 5 6,mv 4 7]
 (.ret))
theorem A.c141:Zal Tryz.prog 141=some ⟨8,[.tmp 4],A.b141⟩:=by kernel_rfl
def A.k141:=@A.kk 141 _ _ _ A.c141 rfl
def A.b209:Zae:=sr [⟨(some 3),.alloc [(.int .i64 0),.nilslice,(.int .i64 0),.nilslice] 114,none⟩]
 (sr [mv 4 0,ld 5 1,ia 6 4 4 5,lN 7 4 6,⟨none,.store 4 (.tmp 3) (.tmp 7),none⟩]
 (.ret))
theorem A.c209:Zal Tryz.prog 209=some ⟨8,[.cell 3 (some 4)],A.b209⟩:=by kernel_rfl
def A.k209:=@A.kk 209 _ _ _ A.c209 rfl
def A.b71:Zae:=sr [mN 2]
 (sr [mv 3 0,⟨(some 4),.call (.const (.func 154 [] [])) [(.tmp 3),(.const (.func 72 [] []))],none⟩,mv 2 4]
 (.ret))
theorem A.c71:Zal Tryz.prog 71=some ⟨5,[.tmp 2],A.b71⟩:=by kernel_rfl
def A.k71:=@A.kk 71 _ _ _ A.c71 rfl
theorem Yht{a b:List Rat}{j:Nat}(hu:FrS h N u a)(hv:FrS h N v b)(hab:a.length≤b.length)(ha:∀q∈a,Qb j q)(hb:∀q∈b,Qb k q)(hj:1≤j)(hk:1≤k)(hl:a.length*(j+k+1)+j+k+1≤400000):FnV A.C (.func 153 [v] []) [u] h N (fun x h' n'=>Fc h' n' x (Zke a b)):=by
 intro w
 have kB:Keeps h N (h.set N (.cells zF 114 true)) (N+1):=Keeps.refl.new _
 rw[Zab,A.k153 (by simp)]
 simp[A.b153]
 refine Zac (Yha (hu.keep kB) (hv.keep kB) hab ha hb hj hk hl) ?_
 rintro _ h1 n1 k1 hz
 obtain⟨c,rfl,hc⟩:=hz.c
 have le1:=k1.le
 have g1:=k1.get N (by omega)
 rw[T.get_set,if_pos rfl]at g1
 obtain⟨e1,e2⟩:=hc.len
 have hcc:(V.agg c).cells=c:=rfl
 have e4:splice zF 0 c=c:=by unfold splice;rw[e1];simp[zF]
 have hnz:NoU zF:=by intro x hx m;simp[zF]at hx;rcases hx with rfl|rfl|rfl|rfl<;>simp
 have kk:=(kB.trans k1).set (h:=h) (n:=N) (i:=N) (o:=.cells c 114 true) (Nat.le_refl N)
 have hfin:=(hc.setNU (e1:=114) (w1:=true) (c1:=c) g1 hnz (by rw[e1];rfl)).fc
 have s0:slc c 0 4=some c:=by unfold slc;rw[e1];simp;exact List.take_of_length_le (by omega)
 have hlt:N<n1:=by omega
 unfold zF at e4
 simp[-V.cells, -V.one,hcc,e1,e2,e4,s0,g1,Zan,Ret]
 exact⟨kk,hfin⟩
def MfS(h:T O)(N:Nat)(v:V)(m:List (List Rat)):Prop:=∃us:List V,Sl h N v us∧us.length=m.length∧∀(j:Nat) (l:List Rat),m[j]?=some l→∃u,us[j]?=some u∧FrT h N u l
theorem MfS.keep{h':T O}{N':Nat}(s:MfS h N v m)(k:Keeps h N h' N'):MfS h' N' v m:=by
 obtain⟨us,h1,h2,h3⟩:=s
 refine⟨us,h1.keep k,h2,fun j l hl=>?_⟩
 obtain⟨u,g1,g2⟩:=h3 j l hl
 exact⟨u,g1,g2.keep k⟩
theorem MfS.len(s:MfS h N v m):Zmy v=some m.length:=by
 obtain⟨us,h1,h2,_⟩:=s
 rw[h1.len,h2]
theorem FrS.form{l:List Rat}(s:FrS h N v l):V.one v=true∧V.cells v=[v]∧NW v:=by
 obtain⟨cs,⟨_,rfl|rfl⟩|⟨i,o,cp,c,e,rw,rfl,_⟩,_⟩:=s
 ·exact⟨rfl,rfl,fun m=>by simp⟩
 ·exact⟨rfl,rfl,fun m=>by simp⟩
 ·exact⟨rfl,rfl,fun m=>by simp⟩
theorem Zpd{k0:Nat}(hs:TxM h N v m)(hl:m.length<1000000)(hm:∀l∈m,l.length<1000000∧∀q∈l,Qb k0 q)(hk0:k0≤4000):Fn A.C 71 [v] h N (fun u h' n'=>MfS h' n' u m):=by
 intro w
 obtain⟨us,h1,h2,h3⟩:=hs
 rw[Zab,A.k71 (by simp)]
 simp[A.b71]
 refine Zac (Ye1 (Q:=fun j h n u=>∀l,m[j]?=some l→FrT h n u l) NW (fun j h n h' n' c u hq k hd l hl=>(hq l hl).moved k hd (by simp)) h1 (by omega) ?_) ?_
 ·intro j x hx h' n' hk
  obtain⟨l,hl⟩:=Zag (l:=m) (k:=j) (by have:=Zbj hx;omega)
  obtain⟨u,g1,g2⟩:=h3 j l hl
  rw[hx]at g1
  obtain rfl:x=u:=by simpa using g1
  obtain⟨b1,b2⟩:=hm l (List.mem_of_getElem? hl)
  refine fun w=>(Zhu (k0:=k0) (g2.keep hk) b1 b2 hk0 w).mono fun y st=>?_
  rintro⟨q1,q2,q3⟩
  obtain⟨f1,f2,f3⟩:=q3.1.form
  refine⟨q1,q2,y,rfl,rfl,by simp only[List.all_cons,List.all_nil,f1,Bool.and_true],by simpa using f3,fun l' hl'=>?_⟩
  rw[hl]at hl'
  obtain rfl:l=l':=by simpa using hl'
  exact q3
 ·rintro u h4 n4 k4 ⟨out,o1,o2,o3⟩
  simp[Ret]
  refine⟨k4,?_⟩
  have hx:∀x∈out,∃y,x=[y]:=fun x hx=>by
   have:=o1.1 x hx
   cases x with
   |nil=>simp at this
   |cons y t=>cases t with
    |nil=>exact⟨y,rfl⟩
    |cons a b=>simp at this
  obtain⟨ys,hys⟩:∃ys:List V,out=ys.map fun y=>[y]:=by
   clear o1 o2 o3
   induction out with
   |nil=>exact⟨[],rfl⟩
   |cons x t ih=>
    obtain⟨y,rfl⟩:=hx x (by simp)
    obtain⟨ys,rfl⟩:=ih fun x hx'=>hx x (by simp[hx'])
    exact⟨y::ys,rfl⟩
  subst hys
  refine⟨ys,Sn.one.1 o1.sn,by simpa[h2]using o2,fun j l hl=>?_⟩
  obtain⟨y,g1,g2⟩:=o3 j (by have:=Zbj hl;omega)
  refine⟨y,?_,g2 l hl⟩
  rw[List.getElem?_map]at g1
  cases hy:ys[j]? with
  |none=>rw[hy]at g1;simp at g1
  |some z=>rw[hy]at g1;simpa using g1
theorem Ztp{f:V}(F:List Rat→Rat)(hs:MfS h N v m)(hl:m.length<1000000)(hf:∀l∈m,∀u h' n',Keeps h N h' n'→FrT h' n' u l→FnV A.C f [u] h' n' (fun x h2 n2=>Fc h2 n2 x (F l))):Fn A.C 86 [v,f] h N (fun u h' n'=>FrT h' n' u (m.map F)):=by
 obtain⟨us,h1,h2,h3⟩:=hs
 have key:=Ye2 (f:=f) (Q:=fun j h n c=>∀q,(m.map F)[j]?=some q→FcC h n c q) NW (fun j h n h' n' c u hq k hd q hq'=>(hq q hq').moved k hd) h1 (by omega) ?_
 ·intro w
  refine(key w).mono fun u st=>?_
  rintro⟨q1,q2,out,o1,o2,o3⟩
  exact⟨q1,q2,Yl2 o1 (by simpa[h2]using o2) fun j hj=>o3 j (by simp at hj;omega)⟩
 ·intro j x hx h' n' hk
  obtain⟨l,hl⟩:=Zag (l:=m) (k:=j) (by have:=Zbj hx;omega)
  obtain⟨u,g1,g2⟩:=h3 j l hl
  rw[hx]at g1
  obtain rfl:x=u:=by simpa using g1
  refine fun w=>(hf l (List.mem_of_getElem? hl) x h' n' hk (g2.keep hk) w).mono fun y st=>?_
  rintro⟨q1,q2,q3⟩
  obtain⟨c,rfl,hc⟩:=q3.c
  refine⟨q1,q2,c,rfl,hc.len.1,hc.len.2,hc.noU,fun q hq=>?_⟩
  simp[hl]at hq
  rw[←hq]
  exact hc
theorem Zqp{b:List Rat}{j n:Nat}(hu:MfS h N u m)(hv:FrS h N v b)(hm:∀r∈m,r.length=n∧∀q∈r,Qb j q)(hn:n≤b.length)(hb:∀q∈b,Qb k q)(hj:1≤j)(hk:1≤k)(hl:n*(j+k+1)+j+k+1≤400000)(hml:m.length<100000):Fn A.C 70 [u,v] h N (fun x h' n'=>FrT h' n' x (m.map fun r=>Zke r b)):=by
 intro w
 rw[Zab,A.k70 (by simp)]
 simp[A.b70]
 refine Zac (Ztp (fun r=>Zke r b) hu (by omega) fun l hl2 x h' n' hk2 hx=>?_) ?_
 ·obtain⟨b1,b2⟩:=hm l hl2
  exact Yht hx.1 (hv.keep hk2) (by omega) b2 hb hj hk (by rw[b1];exact hl)
 ·rintro x h4 n4 k4 hx
  simp[Ret]
  exact⟨k4,hx⟩
theorem Ykk{p:Nat}{l:List Rat}{e:TypeId}{rw:Bool}(hp:h.get p=some (.cells [.int .i64 k] e rw))(hpl:p<N)(hu:FrS h N u l)(hk:k<l.length):FnV A.C (.func 209 [] [.ptr p 0]) [u] h N (fun x h' n'=>Fc h' n' x (l[k]?.getD 0)):=by
 intro w
 have l1:=hu.len
 have hk':(k:Int)<(l.length:Int):=by omega
 obtain⟨q,hq⟩:=Zag hk
 obtain⟨i,o,cc,e,rw,c,q1,q2,q3,q4,q5⟩:=hu.at hq
 obtain⟨e1,e2⟩:=q5.len
 have kB:Keeps h N (h.set N (.cells zF 114 true)) (N+1):=Keeps.refl.new _
 have hcc:(V.agg c).cells=c:=rfl
 have e4:splice zF 0 c=c:=by unfold splice;rw[e1];simp[zF]
 have hnz:NoU zF:=by intro x hx m;simp[zF]at hx;rcases hx with rfl|rfl|rfl|rfl<;>simp
 have s0:slc c 0 4=some c:=by unfold slc;rw[e1];simp;exact List.take_of_length_le (by omega)
 have kk:=kB.set (h:=h) (n:=N) (i:=N) (o:=.cells c 114 true) (Nat.le_refl N)
 have hfin:=((q5.keep kB).setNU (i:=N) (e0:=114) (w0:=true) (e1:=114) (w1:=true) (c1:=c) (by rw[T.get_set,if_pos rfl]) hnz (by rw[e1];rfl)).fc
 have d1:¬p=N:=by omega
 have d2:¬i=N:=by omega
 rw[hq]
 unfold zF at e4
 rw[Zab,A.k209 (by simp)]
 simp[-V.cells, -V.one,A.b209,hp,d1,d2,l1,hk',q1,q3,q4,hcc,e1,e2,e4,s0,Zan,Ret]
 exact⟨kk,hfin⟩
theorem Yf4{n:Nat}(hu:MfS h N u m)(hml:m.length<100000)(hm:∀r∈m,r.length=n)(hk:k<n):Fn A.C 141 [u,.int .i64 k] h N (fun x h' n'=>FrT h' n' x (Zsc m k)):=by
 intro w
 rw[Zab,A.k141 (by simp)]
 have kB:Keeps h N (h.set N (.cells [.int .i64 k] 3 true)) (N+1):=Keeps.refl.new _
 simp[A.b141]
 refine Zac (Ztp (fun r=>r[k]?.getD 0) (hu.keep kB) (by omega) fun l hl2 x h' n' hk2 hx=>?_) ?_
 ·exact Ykk (e:=3) (rw:=true) (by rw[hk2.get N (by omega)];simp) (by have:=hk2.le;omega) hx.1 (by rw[hm l hl2];exact hk)
 ·rintro x h4 n4 k4 hx
  simp[Ret]
  exact⟨kB.trans k4,hx⟩
end Go.Mx
