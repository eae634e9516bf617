/-
  reconstruct: toldRow, turned, joined.
-/
import Derived.Test.YtlbophlgohokkaaGreatDoorVbC
set_option linter.all false
namespace Go.Mx
open Go Go.Proofs
variable {N:Nat} {h:T O} {l:List Rat} {m:List (List Rat)} {u v:V}
set_option maxRecDepth 1000000
def A.lb198_0:Zae:=sr [bi 9 .lss 8 7]
 (.seq (cd 9
 (.skip)
 (.exit 0))
 (.seq (.block 1 (sr [mv 10 8,mv 5 10]
 (sr [mv 11 1,mv 12 0,mv 13 5,ia 14 4 12 13,lN 15 4 14,⟨(some 16),.call (.tmp 11) [(.tmp 15)],none⟩]
 (cd 16
 (sr [mv 17 5,mv 4 17]
 (.ret))
 (.skip)))))
 (.reg [bc 18 .add 8 1,mv 8 18])))
def A.b198:Zae:=sr [mc 4 0]
 (.seq (sr [mv 6 0,ln 7 6,mc 8 0]
 (.block 0 (.loop A.lb198_0)))
 (sr [⟨(some 4),.mov (.const (.int .i64 (-1))),none⟩]
 (.ret)))
theorem A.c198:Zal Tryz.prog 198=some ⟨19,[.tmp 4],A.b198⟩:=by kernel_rfl
def A.k198:=@A.kk 198 _ _ _ A.c198 rfl
theorem Yjz{f:V}(l:List (List V))(p:Nat→Bool)(hs:Sn 4 h N v l)(hl:l.length<1152921504606846976)(hf:∀(j:Nat) (x:List V),l[j]?=some x→∀h' n',Keeps h N h' n'→FnV A.C f [.agg x] h' n' (fun u _ _=>u=.bool (p j))):Fn A.C 198 [v,f] h N (fun u _ _=>u=.int .i64 (Zfp p 0 l.length)):=by
 intro w
 have hlen:=hs.len
 rw[Zab,A.k198 (by simp)]
 simp[A.b198,hlen]
 refine Zaj [(4,5),(8,18)] (fun e r st=>Zaa N st.w=[]∧Keeps h N st.h st.n∧((e=.exit 0∧Zfp p 0 l.length= -1)∨(e=.ret∧r.get 4=some (.int .i64 (Zfp p 0 l.length))))) (fun m r st=>Zaa N st.w=[]∧Keeps h N st.h st.n∧∃k,k+m=l.length∧r.get 8=some (.int .i64 k)∧Zfp p 0 l.length=Zfp p k m) l.length ?_ ?_ ?_
 ·exact⟨by simp,Keeps.refl,0,by omega,by simp,rfl⟩
 ·rintro m r ⟨H,n1,W⟩ hr hf2 ⟨hW,hK,k,hk,h8,hz⟩
  simp only at hW hK
  rw[Zah]
  cases m with
  |zero=>
   have:k=l.length:=by omega
   subst this
   simp only[Zfp]at hz
   simp[A.lb198_0,hr,hf2,h8,hW,hK,hz]
  |succ m=>
   have hlt:k<l.length:=by omega
   obtain⟨c,hc⟩:=Zag hlt
   obtain⟨i,o,cc,e,rw,q1,q2,q3,q4⟩:=hs.at hc
   have q3:=(hK.get _ q2).trans q3
   have hk1:(k:Int)<(l.length:Int):=by omega
   simp only[Zfp]at hz
   simp[A.lb198_0,hr,h8,hk1,hlen,q1,q3,q4]
   refine Zkn (hf k c hc _ _ hK) ?_
   rintro v h2 n2 k2 rfl
   have kk:=hK.trans k2
   cases hp:p k
   ·rw[hp]at hz
    simp(disch:=first|(simp;done)|omega|rfl) [hf2,h8,hW,kk]
    exact⟨m,by omega,k+1,by omega,by simp,by simpa using hz⟩
   ·rw[hp]at hz
    simp[hf2,hW,kk]
    simpa using hz.symm
 ·rintro e r ⟨H,n1,W⟩ hr ⟨hW,hK,⟨rfl,hz⟩|⟨rfl,h4⟩⟩
  ·simp only at hW hK
   simp[hz,Ret,hW,hK]
  ·simp only at hW hK
   simp[h4,Ret,hW,hK]
def A.b126:Zae:=sr [⟨(some 4),.mov (.const (.bool false)),none⟩]
 (sr [mv 5 0,mv 6 1,c2 7 198 5 6,bc 8 .geq 7 0,mv 4 8]
 (.ret))
theorem A.c126:Zal Tryz.prog 126=some ⟨9,[.tmp 4],A.b126⟩:=by kernel_rfl
def A.k126:=@A.kk 126 _ _ _ A.c126 rfl
def A.b69:Zae:=sr [mN 2,mc 3 0]
 (.seq (sr [mv 4 0,⟨(some 5),.call (.const (.func 126 [] [])) [(.tmp 4),(.const (.func 106 [] []))],none⟩]
 (cd 5
 (sr [mN 2,mc 3 4]
 (.ret))
 (.skip)))
 (sr [mv 6 0,c1 7 152 6,mv 2 7,mc 3 0]
 (.ret)))
theorem A.c69:Zal Tryz.prog 69=some ⟨8,[.tmp 2,.tmp 3],A.b69⟩:=by kernel_rfl
def A.k69:=@A.kk 69 _ _ _ A.c69 rfl
def A.lb80_0:Zae:=sr [bi 9 .lss 8 7]
 (.seq (cd 9
 (.skip)
 (.exit 0))
 (.seq (.block 1 (sr [mv 10 8,mv 6 10]
 (.reg [mv 11 5,mv 12 0,mv 13 6,c2 14 141 12 13,⟨(some 15),.bslice 97 1 1 [.nilslice] [(0,1,(.tmp 14))],none⟩,⟨(some 16),.append 1 24 97 [.nilslice] (.tmp 11) (.tmp 15),none⟩,mv 5 16])))
 (.reg [bc 17 .add 8 1,mv 8 17])))
def A.b80:Zae:=sr [mN 4]
 (sr [mN 5]
 (.seq (sr [mv 7 1,mc 8 0]
 (.block 0 (.loop A.lb80_0)))
 (sr [mv 18 5,mv 4 18]
 (.ret))))
theorem A.c80:Zal Tryz.prog 80=some ⟨19,[.tmp 4],A.b80⟩:=by kernel_rfl
def A.k80:=@A.kk 80 _ _ _ A.c80 rfl
def A.lb89_0:Zae:=sr [bi 15 .lss 14 13]
 (.seq (cd 15
 (.skip)
 (.exit 0))
 (.seq (.block 1 (sr [mv 16 14,mv 8 16]
 (.regD [mv 17 7,mv 18 8,mv 19 2,mv 20 0,mv 21 8,ia 22 4 20 21,lN 23 4 22,mv 24 1,mv 25 8,ia 26 4 24 25,lN 27 4 26,⟨(some 28),.call (.tmp 19) [(.tmp 23),(.tmp 27)],none⟩,ia 29 4 17 18,⟨none,.store 4 (.tmp 29) (.tmp 28),none⟩] [0,0,0,0,0,24,56,0,0,384,896,2044,4095,8191])))
 (.reg [bc 30 .add 14 1,mv 14 30])))
def A.b89:Zae:=sr [mN 6]
 (sr [mv 9 0,ln 10 9,⟨(some 11),.mkslice 114 4 64 [(.int .i64 0),.nilslice,(.int .i64 0),.nilslice] (.tmp 10) (.tmp 10),none⟩,mv 7 11]
 (.seq (sr [mv 12 0,ln 13 12,mc 14 0]
 (.block 0 (.loop A.lb89_0)))
 (sr [mv 31 7,mv 6 31]
 (.ret))))
theorem A.c89:Zal Tryz.prog 89=some ⟨32,[.tmp 6],A.b89⟩:=by kernel_rfl
def A.k89:=@A.kk 89 _ _ _ A.c89 rfl
def A.b87:Zae:=sr [⟨(some 3),.alloc [(.int .i64 0),.nilslice,(.int .i64 0),.nilslice] 114,none⟩]
 (sr [mv 4 0,ld 5 1,⟨(some 6),.call (.const (.func 89 [] [])) [(.tmp 4),(.tmp 5),(.const (.func 90 [] []))],none⟩,mv 7 0,c2 8 88 6 7,⟨none,.store 4 (.tmp 3) (.tmp 8),none⟩]
 (.ret))
theorem A.c87:Zal Tryz.prog 87=some ⟨9,[.cell 3 (some 4)],A.b87⟩:=by kernel_rfl
def A.k87:=@A.kk 87 _ _ _ A.c87 rfl
theorem Yf1{f:V}(l:List (List V))(p:Nat→Bool)(hs:Sn 4 h N v l)(hl:l.length<1152921504606846976)(hf:∀(j:Nat) (x:List V),l[j]?=some x→∀h' n',Keeps h N h' n'→FnV A.C f [.agg x] h' n' (fun u _ _=>u=.bool (p j))):Fn A.C 126 [v,f] h N (fun u _ _=>u=.bool (decide (0≤Zfp p 0 l.length))):=by
 intro w
 rw[Zab,A.k126 (by simp)]
 simp[A.b126]
 refine Zac (Yjz l p hs hl hf) ?_
 rintro v h2 n2 k2 rfl
 simp[Ret,k2]
theorem Zx4:decide (0≤Zfp (fun j=>Yhj (l[j]?.getD 0)) 0 l.length)=Zcw l:=by
 rw[Bool.eq_iff_iff,decide_eq_true_eq,Zrq]
 unfold Zcw
 rw[List.any_eq_true]
 constructor
 ·rintro⟨j,_,h2,h3⟩
  obtain⟨q,hq⟩:=Zag (l:=l) (k:=j) (by omega)
  rw[hq]at h3
  exact⟨q,List.mem_of_getElem? hq,h3⟩
 ·rintro⟨q,hq,h3⟩
  obtain⟨j,hj⟩:=List.getElem?_of_mem hq
  exact⟨j,Nat.zero_le _,by have:=Zbj hj;omega,by rw[hj];exact h3⟩
theorem Zsk{h:T O}{N:Nat}{u:V}{l:List Rat}{k:Nat}(hu:FrS h N u l)(hP:P10 h N)(hl:l.length<1000000)(hq:∀q∈l,Qb k q)(hk:k≤400000):Fn A.C 69 [u] h N (fun x h' n'=>(Zcw l=true∧x=.tup [.nilslice,.int .i64 4])∨(Zcw l=false∧∃v,x=.tup [v,.int .i64 0]∧Tx h' n' v l)):=by
 intro w
 obtain⟨cs,s1,s2,s3⟩:=id hu
 have key:=Yf1 (f:=.func 106 [] []) cs (fun j=>Yhj (l[j]?.getD 0)) s1 (by omega) (fun j x hx h' n' hk'=>by
  obtain⟨q,hqj⟩:=Zag (l:=l) (k:=j) (by have:=Zbj hx;omega)
  obtain⟨c,g1,g2⟩:=s3 j q hqj
  rw[hx]at g1
  obtain rfl:x=c:=by simpa using g1
  simp only[hqj,Option.getD_some]
  exact Ybs (g2.keep hk').fc (hP.keep hk') (hq q (List.mem_of_getElem? hqj)) (by omega))
 rw[s2,Zx4]at key
 rw[Zab,A.k69 (by simp)]
 simp[A.b69]
 refine Zac key ?_
 rintro _ h2 n2 k2 rfl
 cases hb:Zcw l with
 |true=>
  simp[Ret]
  exact k2
 |false=>
  simp[]
  refine Zac (Ydj (k0:=k) (hu.keep k2) (hP.keep k2) hl hq hk) ?_
  rintro v h3 n3 k3 ⟨t1,_⟩
  simp[Ret]
  exact⟨k2.trans k3,t1⟩
def MfO(N0:Nat)(h:T O)(N:Nat)(v:V)(m:List (List Rat)):Prop:=∃us:List V,Own 1 97 N0 h N v (us.map fun y=>[y])∧(us=[]→v=.nilslice)∧us.length=m.length∧∀(j:Nat) (l:List Rat),m[j]?=some l→∃u,us[j]?=some u∧FrT h N u l
theorem MfO.nil{N0:Nat}:MfO N0 h N .nilslice []:=⟨[],Own.nil,fun _=>rfl,rfl,fun j l hl=>by simp at hl⟩
theorem MfO.keep{N0:Nat}{h':T O}{N':Nat}(s:MfO N0 h N v m)(k:Keeps h N h' N'):MfO N0 h' N' v m:=by
 obtain⟨us,h1,h2,h3,h4⟩:=s
 refine⟨us,h1.keep k,h2,h3,fun j l hl=>?_⟩
 obtain⟨u,g1,g2⟩:=h4 j l hl
 exact⟨u,g1,g2.keep k⟩
theorem MfO.mfs{N0:Nat}(s:MfO N0 h N v m):MfS h N v m:=by
 obtain⟨us,h1,h2,h3,h4⟩:=s
 exact⟨us,Sn.one.1 h1.sn,h3,h4⟩
theorem MfO.push{N0:Nat}{x:V}{w:List Nat}(s:MfO N0 h N v m)(hu:FrT h N u l)(hN:N0≤N)(hx:Za0 ⟨h,N,w⟩ 1 x=some (1,[u]))(hm:m.length<100000):
  ∃v' h' w',Zcd ⟨h,N,w⟩ 1 24 97 v x=some (v',⟨h',N+1,w'⟩)∧Zaa N0 w'=Zaa N0 w∧Keeps h N0 h' (N+1)∧MfO N0 h' (N+1) v' (m++[l]):=by
 obtain⟨us,h1,h2,h3,h4⟩:=s
 obtain⟨v',h',w',f1,f2,f3,f4,fD,f5⟩:=Zgm (Y:=NW) (x:=[u]) (u:=x) (bytes:=24) (w:=w) h1 (fun h0=>h2 (List.map_eq_nil_iff.1 h0)) (fun c hc y hy=>by
  obtain⟨z,hz,rfl⟩:=List.mem_map.1 hc
  obtain rfl:y=z:=by simpa using hy
  obtain⟨j,hj⟩:=List.getElem?_of_mem hz
  obtain⟨r,hr⟩:=Zag (l:=m) (k:=j) (by have:=Zbj hj;omega)
  obtain⟨u',g1,g2⟩:=h4 j r hr
  rw[hj]at g1
  obtain rfl:y=u':=by simpa using g1
  exact g2.1.form.2.2) hN (by decide) rfl hx (by rw[List.length_map];omega)
 refine⟨v',h',w',f1,f2,f3,us++[u],by simpa using f5,by simp,by simp[h3],fun j r hr=>?_⟩
 by_cases hj:j<m.length
 ·rw[List.getElem?_append_left hj]at hr
  obtain⟨u',g1,g2⟩:=h4 j r hr
  exact⟨u',by rw[List.getElem?_append_left (by omega)];exact g1,g2.moved f4 fD (by simp)⟩
 ·rw[List.getElem?_append_right (by omega)]at hr
  cases hd:j-m.length with
  |zero=>
   rw[hd]at hr
   simp at hr
   subst hr
   exact⟨u,by rw[List.getElem?_append_right (by omega),h3,hd];rfl,hu.moved f4 fD (by simp)⟩
  |succ d=>rw[hd]at hr;simp at hr
theorem Yd6{n:Nat}(hu:MfS h N u m)(hml:m.length<100000)(hm:∀r∈m,r.length=n)(hn:n<1000):Fn A.C 80 [u,.int .i64 n] h N (fun x h' n'=>MfO N h' n' x (Ze7 m n)):=by
 intro w
 rw[Zab,A.k80 (by simp)]
 simp[A.b80]
 refine Zaj [(5,6),(8,17)] (fun e r st=>e=.exit 0∧Zaa N st.w=[]∧Keeps h N st.h st.n∧∃x,r.get 5=some x∧MfO N st.h st.n x (Ze7 m n)) (fun i r st=>Zaa N st.w=[]∧Keeps h N st.h st.n∧∃k x,k+i=n∧r.get 8=some (.int .i64 k)∧r.get 5=some x∧MfO N st.h st.n x (Ze7 m k)) n ?_ ?_ ?_
 ·exact⟨by simp,Keeps.refl,0,.nilslice,by omega,by simp,by simp,MfO.nil⟩
 ·rintro i r ⟨H,n1,W⟩ hr hf ⟨hW,hK,k,x,hk,h8,h5,ho⟩
  simp only at hW hK ho
  rw[Zah]
  cases i with
  |zero=>
   obtain rfl:k=n:=by omega
   simp[A.lb80_0,hr,hf,h8,h5,hW,hK]
   exact ho
  |succ i=>
   have hlt:k<n:=by omega
   have hlt':(k:Int)<(n:Int):=by omega
   simp[A.lb80_0,hr,h8,h5,hlt']
   refine Zac (Yf4 (hu.keep hK) hml hm hlt) ?_
   rintro y H2 n2 k2 hy
   have le2:=k2.le
   have nle:=hK.le
   obtain⟨y1,y2,y3⟩:=hy.1.form
   have e4:splice [V.nilslice] 0 [y]=[y]:=rfl
   have kN:Keeps H2 n2 (H2.set n2 (.cells [y] 97 true)) (n2+1):=Keeps.refl.new _
   obtain⟨v',h',w',f1,f2,f3,f5⟩:=(((ho.keep k2).keep kN).push (x:=.slice n2 0 1 (some 1) 1) (l:=Zsc m k) (w:=W) (hy.keep kN) (by omega) (by simp[Za0,St.row,slc]) (by simp[Ze7];omega))
   have e7:Ze7 m k++[Zsc m k]=Ze7 m (k+1):=by simp[Ze7,List.range_succ]
   rw[e7]at f5
   have b1:V.one y=true:=y1
   simp(disch:=first|(simp;done)|omega|rfl) [-V.cells, -V.one,hf,h8,b1,y2,e4,f1]
   exact⟨i,by omega,by rw[f2];exact hW,((hK.trans k2).trans kN).then f3,k+1,by omega,by simp,f5⟩
 ·rintro _ r ⟨H,n1,W⟩ hr ⟨rfl,hW,hK,x,h5,ho⟩
  simp only at hW hK ho
  simp[h5,Ret,hW,hK]
  exact ho
end Go.Mx
namespace Go.Mx
open Go Go.Proofs
variable {N j k n:Nat} {a b:List Rat} {h:T O} {u v:V}
set_option maxRecDepth 1000000
def Yc6(F:Rat→Rat→Rat)(a b:List Rat)(n:Nat):List Rat:=(List.range n).map fun k=>F (a[k]?.getD 0) (b[k]?.getD 0)
theorem Yc5{F:Rat→Rat→Rat}(h:j<n):(Yc6 F a b n)[j]?=some (F (a[j]?.getD 0) (b[j]?.getD 0)):=by
 simp[Yc6,h]
theorem Zlj{F:Rat→Rat→Rat}:(Yc6 F a b n).length=n:=by simp[Yc6]
theorem Zyw:(wtN a b n).length=n:=by simp[wtN]
structure JnI (F:Rat→Rat→Rat) (h:T O) (N:Nat) (a b:List Rat) (m:Nat) (r:T V) (st:St):Prop where
 w:Zaa N st.w=[]
 keep:Keeps h N st.h st.n
 ex:∃(k:Nat) (cs:List (List V)),k+m=a.length∧r.get 14=some (.int .i64 k)∧N<st.n∧st.h.get N=some (.cells (cs.flatten++Zd5 zF m) 114 true)∧cs.length=k∧∀(j:Nat) (q:Rat),j<k→(Yc6 F a b a.length)[j]?=some q→∃c,cs[j]?=some c∧FcC st.h st.n c q
set_option maxHeartbeats 2000000 in
theorem Yju{f:V}(F:Rat→Rat→Rat)(hu:FrS h N u a)(hv:FrS h N v b)(hab:a.length≤b.length)(hF:∀x∈a,∀y∈b,∀(h':T O) (n':Nat) (ca cb:List V),Keeps h N h' n'→FcC h' n' ca x→FcC h' n' cb y→FnV A.C f [.agg ca,.agg cb] h' n' (fun z h2 n2=>Fc h2 n2 z (F x y)))(hl:a.length<1000000):Fn A.C 89 [u,v,f] h N (fun x h' n'=>FrT h' n' x (Yc6 F a b a.length)):=by
 intro w
 have l1:=hu.len
 have l2:=hv.len
 have c1:(64:Int)*(a.length:Int)≤140737488355328:=by omega
 have c2:(a.length:Int)<4611686018427387904:=by omega
 have kB:Keeps h N (h.set N (.cells (Zd5 zF a.length) 114 true)) (N+1):=Keeps.refl.new _
 rw[Zab,A.k89 (by simp)]
 simp[A.b89,l1,c1,c2]
 refine Zaj [(8,8),(14,30)] (fun e r st=>e=.exit 0∧JnI F h N a b 0 r st) (JnI F h N a b) a.length ?_ ?_ ?_
 ·exact⟨by simp,kB,0,[],by omega,by simp,by show N<N+1;omega,by rw[T.get_set,if_pos rfl];rfl,rfl,fun j q hj=>by omega⟩
 ·rintro m r ⟨H,n1,W⟩ hr hf ⟨hW,hK,t,cs,ht,h14,hN1,hM,hcl,hcs⟩
  simp only at hW hK hM hN1 hcs
  rw[Zah]
  cases m with
  |zero=>
   obtain rfl:t=a.length:=by omega
   simp[A.lb89_0,hr,hf,h14]
   exact⟨hW,hK,a.length,cs,by omega,by simp[h14],hN1,hM,hcl,hcs⟩
  |succ m=>
   have hlt:t<a.length:=by omega
   have hlt':(t:Int)<(a.length:Int):=by omega
   have hlb:t<b.length:=by omega
   have hlb':(t:Int)<(b.length:Int):=by omega
   obtain⟨x,hx⟩:=Zag hlt
   obtain⟨y,hy⟩:=Zag hlb
   obtain⟨i,o,cc,e,rw,ca,q1,q2,q3,q4,q5⟩:=(hu.keep hK).at hx
   obtain⟨i',o',cc',e',rw',cb,p1,p2,p3,p4,p5⟩:=(hv.keep hK).at hy
   have hi:i<N:=by
    obtain⟨i2,_,_,_,_,_,z1,z2,_⟩:=hu.at hx
    rw[q1]at z1
    simp at z1
    omega
   have hi':i'<N:=by
    obtain⟨i2,_,_,_,_,_,z1,z2,_⟩:=hv.at hy
    rw[p1]at z1
    simp at z1
    omega
   simp[A.lb89_0,hr,h14,l1,l2,hlt',hlb',q1,q2,q3,q4,p1,p2,p3,p4]
   refine Zkn (hF x (List.mem_of_getElem? hx) y (List.mem_of_getElem? hy) _ _ _ _ hK q5 p5) ?_
   rintro _ H2 n2 k2 hf2
   obtain⟨c,rfl,hc⟩:=hf2.c
   have le2:=k2.le
   have nle:=hK.le
   have hM2:=(k2.get N hN1).trans hM
   have hcs2:∀(j:Nat) (q:Rat),j<cs.length→(Yc6 F a b a.length)[j]?=some q→∃c,cs[j]?=some c∧FcC H2 n2 c q:=fun j q hj hq=>by
    obtain⟨c,g1,g2⟩:=hcs j q (by omega) hq
    exact⟨c,g1,g2.keep k2⟩
   obtain⟨f1,f2,f3⟩:=Zpq (l:=Yc6 F a b a.length) (by rw[Zlj];omega) hcs2
   have hfl:=Zb7 f1
   obtain⟨e1,e2⟩:=hc.len
   have hsp:splice (cs.flatten++Zd5 zF (m+1)) (t*4) c=(cs++[c]).flatten++Zd5 zF m:=by
    rw[Zhh,Zkl (n:=4) (by rw[hfl,hcl]) rfl e1,Zlu,List.append_assoc]
   have hb4:t*4+4≤(cs.flatten++Zd5 zF (m+1)).length:=by
    rw[List.length_append,hfl,Ygl];omega
   have hcc:(V.agg c).cells=c:=rfl
   have hnu:NoU (cs.flatten++Zd5 zF (m+1)):=f2.app Zoy
   have hlen4:((cs++[c]).flatten++Zd5 zF m).length=(cs.flatten++Zd5 zF (m+1)).length:=by
    rw[Zhh,Zlu];simp[e1,zF];omega
   generalize cs.flatten++Zd5 zF (m+1)=X at*
   obtain⟨Y,hY⟩:∃Y,(cs++[c]).flatten++Zd5 zF m=Y:=⟨_,rfl⟩
   rw[hY]at hsp hlen4
   have d1:N<n2:=by omega
   have d2:¬i=N:=by omega
   have d3:¬i'=N:=by omega
   simp(disch:=first|(simp;done)|omega|rfl) [-V.cells, -V.one,hf,h14,hM2,Zan,hcc,e1,e2,hb4,hsp]
   have wok:¬N<N:=by omega
   refine⟨m,by omega,⟨by simp[d1,Zaa,hW],(hK.trans k2).set (Nat.le_refl N),t+1,cs++[c],by omega,by simp,d1,by show T.get _ N=_;rw[T.get_set,if_pos rfl,hY],by simp[hcl],fun j q' hj hq'=>?_⟩⟩
   by_cases hjk:j<t
   ·obtain⟨c',g1,g2⟩:=hcs j q' hjk hq'
    exact⟨c',by rw[List.getElem?_append_left (by omega)];exact g1,(g2.keep k2).setNU hM2 hnu hlen4⟩
   ·obtain rfl:j=t:=by omega
    rw[Yc5 hlt,hx,hy]at hq'
    simp only[Option.getD_some,Option.some.injEq]at hq'
    subst hq'
    exact⟨c,by rw[List.getElem?_append_right (by omega),hcl];simp,hc.setNU hM2 hnu hlen4⟩
 ·rintro _ r ⟨H,n1,W⟩ hr ⟨rfl,hW,hK,t,cs,ht,h14,hN1,hM,hcl,hcs⟩
  simp only at hW hK hM hN1 hcs
  obtain rfl:t=a.length:=by omega
  simp[hr,Ret,hW,hK]
  have hz:Zd5 zF 0=[]:=by simp[Zd5]
  obtain⟨f1,_,_⟩:=Zpq (l:=Yc6 F a b a.length) (by rw[Zlj];omega) (fun j q hj hq=>hcs j q (by omega) hq)
  have hfl:=Zb7 f1
  rw[hz,List.append_nil]at hM
  refine⟨⟨cs,.inr ⟨N,0,some a.length,cs.flatten,_,true,by rw[hcl],hN1,hM,fun j x hx=>by rw[Nat.zero_add];exact Ze4 f1 hx,by omega,fun k hk=>by simp at hk;omega⟩,by rw[Zlj];exact hcl,fun j q hq=>hcs j q (by have:=Zbj hq;rw[Zlj]at this;omega) hq⟩,fun i hi=>?_⟩
  simp[Zev]at hi
  subst hi
  exact⟨_,_,hM⟩
theorem Ye6(hu:FrS h N u a)(hv:FrS h N v b)(hab:a.length≤b.length)(ha:∀q∈a,Qb j q)(hb:∀q∈b,Qb k q)(hj:j≤400000)(hk:k≤400000)(hl:a.length<1000000):Fn A.C 89 [u,v,.func 90 [] []] h N (fun x h' n'=>FrT h' n' x (wtN a b a.length)):=
 Yju (fun x y=>x*y) hu hv hab (fun x hx y hy h' n' ca cb _ q5 p5=>by
  have hpb:=ha x hx
  have hqb:=hb y hy
  have w1:=Zi2 hpb.1
  have w2:=Zi2 (z:=(x.den:Int)) (k:=j) (by rw[Int.natAbs_natCast];exact hpb.2)
  have w3:=Zi2 hqb.1
  have w4:=Zi2 (z:=(y.den:Int)) (k:=k) (by rw[Int.natAbs_natCast];exact hqb.2)
  exact(Ybr q5.fc p5.fc (by omega) (by omega) (by omega) (by omega))) hl
theorem Zug(ha:∀q∈a,Qb j q)(hb:∀q∈b,Qb k q)(hj:1≤j)(hk:1≤k):∀q∈wtN a b n,Qb (j+k) q:=fun q hq=>by
 unfold wtN at hq
 obtain⟨i,_,rfl⟩:=List.mem_map.1 hq
 exact(Zm2 ha hj i).mul (Zm2 hb hk i)
theorem Yiz{p:Nat}{e:TypeId}{rw:Bool}(hp:h.get p=some (.cells [v] e rw))(hpl:p<N)(hu:FrS h N u a)(hv:FrS h N v b)(hab:a.length=b.length)(ha:∀q∈a,Qb j q)(hb:∀q∈b,Qb k q)(hj:1≤j)(hk:1≤k)(hl:a.length*(2*j+k+1)+2*j+k+1≤400000):FnV A.C (.func 87 [] [.ptr p 0]) [u] h N (fun x h' n'=>Fc h' n' x (Zke (wtQ a b) a)):=by
 intro w
 have kB:Keeps h N (h.set N (.cells zF 114 true)) (N+1):=Keeps.refl.new _
 have d1:¬p=N:=by omega
 have hal:a.length≤400000:=by have:=Nat.le_mul_of_pos_right a.length (show 0<2*j+k+1 by omega);omega
 have ew:wtQ a b=wtN a b a.length:=by rw[hab];rfl
 rw[ew]
 rw[Zab,A.k87 (by simp)]
 simp[A.b87,hp,d1]
 refine Zac (Ye6 (hu.keep kB) (hv.keep kB) (by omega) ha hb (by omega) (by omega) (by omega)) ?_
 rintro y h0 n0 k0 hy
 simp[]
 refine Zac (Yha hy.1 ((hu.keep kB).keep k0) (by rw[Zyw];omega) (Zug ha hb hj hk) ha (by omega) hj (by rw[Zyw,show j+k+j+1=2*j+k+1 by omega];omega)) ?_
 rintro _ h1 n1 k1 hz
 obtain⟨c,rfl,hc⟩:=hz.c
 have le0:=k0.le
 have le1:=k1.le
 have g0:=k0.get N (by omega)
 rw[T.get_set,if_pos rfl]at g0
 have g1:=(k1.get N (by omega)).trans g0
 obtain⟨e1,e2⟩:=hc.len
 have hcc:(V.agg c).cells=c:=rfl
 have e4:splice zF 0 c=c:=by unfold splice;rw[e1];simp[zF]
 have hnz:NoU zF:=by intro x hx m;simp[zF]at hx;rcases hx with rfl|rfl|rfl|rfl<;>simp
 have kk:=((kB.trans k0).trans k1).set (h:=h) (n:=N) (i:=N) (o:=.cells c 114 true) (Nat.le_refl N)
 have hfin:=(hc.setNU (e1:=114) (w1:=true) (c1:=c) g1 hnz (by rw[e1];rfl)).fc
 have s0:slc c 0 4=some c:=by unfold slc;rw[e1];simp;exact List.take_of_length_le (by omega)
 have hlt:N<n1:=by omega
 unfold zF at e4
 simp[-V.cells, -V.one,hcc,e1,e2,e4,s0,g1,Zan,Ret]
 exact⟨kk,hfin⟩
end Go.Mx
namespace Go.Mx
open Go Go.Proofs
variable {N n:Nat} {h:T O} {l:List Str} {m:List (List Str)} {v:V}
set_option maxRecDepth 1000000
def A.b11:Zae:=sr [bx 2 22 0,bx 3 23 1,mN 4,mc 5 0]
 (sr [⟨(some 7),.mkfunc 65 [] [(.tmp 2)],none⟩,⟨(some 8),.mkfunc 67 [] [(.tmp 3),(.tmp 2)],none⟩,⟨(some 9),.bslice 94 1 2 [.nilfunc,.nilfunc] [(0,1,(.tmp 7)),(1,1,(.tmp 8))],none⟩,c1 10 64 9,mv 6 10]
 (.seq (sr [mv 11 6,ni 12 11 0]
 (cd 12
 (sr [mv 13 6,mN 4,mv 5 13]
 (.ret))
 (.skip)))
 (.seq (.regD [ld 14 2,c1 15 71 14,ld 16 3,c1 17 72 16,c2 18 70 15 17,c1 19 69 18,xt 20 19 0,xt 21 19 1,mv 4 20,mv 5 21] [0,1,0,7,15,31,63,63,255,511])
 (.ret))))
theorem A.c11:Zal Tryz.prog 11=some ⟨22,[.tmp 4,.tmp 5],A.b11⟩:=by kernel_rfl
def A.k11:=@A.kk 11 _ _ _ A.c11 rfl
def Zf5(l:List Str):List Rat:=l.map Zp5
def Zi0(m:List (List Str)):List (List Rat):=m.map Zf5
theorem Zav:∀{l:List Int},Zak l=0→∀x∈l,x=0
 |[],_,x,hx=>by simp at hx
 |y::l,h,x,hx=>by
  simp only[Zak]at h
  split at h
  ·rename_i h0
   rcases List.mem_cons.1 hx with rfl|hx
   ·exact h0
   ·exact Zav h x hx
  ·rename_i h0;exact absurd h h0
def OkL(l:List Str):Prop:=∀s∈l,chkNum s=0∧s.length≤24
theorem OkL.txt(h:OkL l):(Zf5 l).map Za3=l:=by
 unfold Zf5
 rw[List.map_map]
 conv=>rhs;rw[←List.map_id l]
 apply List.map_congr_left
 intro s hs
 exact(Zpy (h s hs).1).1
theorem OkL.qb(h:OkL l):∀q∈Zf5 l,Qb 100 q:=fun q hq=>by
 obtain⟨s,hs,rfl⟩:=List.mem_map.1 hq
 exact Ym0 (h s hs).1 (h s hs).2
theorem OkL.sl(hs:Sl h N v (strs l))(hl:OkL l):Tx h N v (Zf5 l):=by
 unfold Tx tx
 rw[hl.txt]
 exact hs
theorem MtS.rat(hs:MtS h N v m)(hm:∀r∈m,OkL r):TxM h N v (Zi0 m):=by
 apply MtS.txm
 have:((Zi0 m).map fun l=>l.map Za3)=m:=by
  unfold Zi0
  rw[List.map_map]
  conv=>rhs;rw[←List.map_id m]
  apply List.map_congr_left
  intro r hr
  exact(hm r hr).txt
 rw[this]
 exact hs
theorem Zj7(h:Zbx l n=0)(hs:Za9 6 l=true):l.length=n∧OkL l:=by
 unfold Zbx at h
 split at h
 ·rename_i hn
  refine⟨hn,fun s hs'=>?_⟩
  have h1:=Zav h _ (List.mem_map.2 ⟨s,hs',rfl⟩)
  have h2:l.all Znt=true:=by
   unfold Za9 at hs
   rw[Bool.and_eq_true]at hs
   exact hs.2
  have h3:=List.all_eq_true.1 h2 s hs'
  simp[Znt]at h3
  exact⟨by omega,h3⟩
 ·exact absurd h (by decide)
theorem Zjh(h:Za9 n l=true):Zgq l.length n=true:=by
 unfold Za9 at h
 rw[Bool.and_eq_true]at h
 exact h.1
structure OkM (m:List (List Str)) (n:Nat):Prop where
 pos:0<m.length
 le:m.length≤6
 n1:0<n
 n6:n≤6
 row:∀r∈m,r.length=n∧OkL r
theorem OkM.rat(h:OkM m n):∀r∈Zi0 m,r.length=n∧∀q∈r,Qb 100 q:=fun r hr=>by
 obtain⟨s,hs,rfl⟩:=List.mem_map.1 hr
 exact⟨by simp[Zf5,(h.row s hs).1],(h.row s hs).2.qb⟩
theorem Zhm(h:Zcm 6 6 m=true):Zgq m.length 6=true∧∀r∈m,Za9 6 r=true:=by
 unfold Zcm at h
 rw[Bool.and_eq_true,List.all_eq_true]at h
 exact h
theorem Ybm(h:0<m.length):∃r∈m,hdL m=r.length:=by
 obtain⟨r,hr⟩:=Zag h
 exact⟨r,List.mem_of_getElem? hr,by simp[hdL,hr]⟩
theorem Zgd{k:Nat}(h:Zgq k 6=true)(h2:k≤64):k≤6:=by
 simp[Zgq]at h
 omega
theorem Ziv(h:Zhy m 64 64=0)(hs:Zcm 6 6 m=true):OkM m (hdL m):=by
 obtain⟨s1,s2⟩:=Zhm hs
 unfold Zhy at h
 split at h
 ·exact absurd h (by decide)
 split at h
 ·exact absurd h (by decide)
 rename_i h1 h2
 have hp:0<m.length:=by omega
 obtain⟨r0,hr0,e0⟩:=Ybm hp
 refine⟨hp,Zgd s1 (by omega),by omega,?_,fun r hr=>Zj7 (Zav h _ (List.mem_map.2 ⟨r,hr,rfl⟩)) (s2 r hr)⟩
 rw[e0]
 exact Zgd (Zjh (s2 r0 hr0)) (by omega)
theorem Zeu(h:Za9 6 l=true):l.length<100000∧∀s∈l,s.length≤100000:=by
 refine⟨by have:=Zls (Zjh h) (by omega);omega,fun s hs=>?_⟩
 unfold Za9 at h
 rw[Bool.and_eq_true]at h
 have h3:=List.all_eq_true.1 h.2 s hs
 simp[Znt]at h3
 omega
theorem Zet(h:Zcm 6 6 m=true):m.length<100000∧∀r∈m,r.length<100000∧∀s∈r,s.length≤100000:=by
 obtain⟨s1,s2⟩:=Zhm h
 exact⟨by have:=Zls s1 (by omega);omega,fun r hr=>Zeu (s2 r hr)⟩
def Ym6(e:Int)(l:List Rat)(x:V)(h:T O)(n:Nat):Prop:=(e≠0∧x=.tup [.nilslice,.int .i64 e])∨(e=0∧((Zcw l=true∧x=.tup [.nilslice,.int .i64 4])∨(Zcw l=false∧∃v,x=.tup [v,.int .i64 0]∧Tx h n v l)))
def Zv4(m:List (List Str))(l:List Str):Int:=Zak [Zhy m 64 64,Zbx l (hdL m)]
def Yct(m:List (List Str))(l:List Str):List Rat:=(Zi0 m).map fun r=>Zke r (Zf5 l)
theorem Zku{a b:List Rat}{j k:Nat}(ha:∀q∈a,Qb j q)(hb:∀q∈b,Qb k q)(hj:1≤j)(hk:1≤k)(hn:a.length≤n):Qb (n*(j+k+1)+1) (Zke a b):=(Zpr ha hb hj hk a.length).mono (by have:=Nat.mul_le_mul_right (j+k+1) hn;omega)
theorem Yis{a b:V}{x y:Int}{P:V→Int→Nat→Prop}(h0:P a x 0)(h1:x=0→P b y 1):∀(j:Nat) (f:V) (e:Int),[a,b][j]?=some f→[x,y][j]?=some e→(∀(i:Nat) (z:Int),i<j→[x,y][i]?=some z→z=0)→P f e j
 |0,f,e,hf,he,_=>by simp at hf he;subst hf he;exact h0
 |1,f,e,hf,he,hz=>by simp at hf he;subst hf he;exact h1 (hz 0 x (by omega) rfl)
 |j+2,f,e,hf,_,_=>by simp at hf
set_option maxHeartbeats 2000000 in
theorem Ygd{u:V}(hm:MtS h N u m)(hl:Sl h N v (strs l))(hP:P10 h N)(sm:Zcm 6 6 m=true)(sl:Za9 6 l=true):Fn A.C 11 [u,v] h N (fun x h' n'=>Ym6 (Zv4 m l) (Yct m l) x h' n'):=by
 intro w
 obtain⟨m1,m2⟩:=Zet sm
 obtain⟨l1,l2⟩:=Zeu sl
 have o1:V.one u=true∧V.cells u=[u]:=by
  obtain⟨us,⟨_,rfl|rfl⟩|⟨i,o,cp,c,e,rw,rfl,_⟩,_⟩:=hm<;>exact⟨rfl,rfl⟩
 have o2:=hl.form.one
 have o3:=hl.form.cells
 obtain⟨o4,o5⟩:=o1
 rw[Zab,A.k11 (by simp)]
 unfold V.one at o2 o4
 unfold V.cells at o3 o5
 simp[A.b11,o2,o3,o4,o5,splice]
 generalize hH:((h.set N (.cells [u] 22 true)).set (N+1) (.cells [v] 23 true)).set (N+1+1) (.cells [.func 65 [] [.ptr N 0],.func 67 [] [.ptr (N+1) 0,.ptr N 0]] 94 true)=H
 have kB:Keeps h N H (N+1+1+1):=by rw[←hH];exact((Keeps.refl.new _).new _).new _
 have g0:H.get N=some (.cells [u] 22 true):=by rw[←hH];simp
 have g1:H.get (N+1)=some (.cells [v] 23 true):=by rw[←hH];simp
 have g2:H.get (N+1+1)=some (.cells [.func 65 [] [.ptr N 0],.func 67 [] [.ptr (N+1) 0,.ptr N 0]] 94 true):=by rw[←hH];simp
 clear hH
 have hs:Sl H (N+1+1+1) (.slice (N+1+1) 0 2 (some 2) 1) [.func 65 [] [.ptr N 0],.func 67 [] [.ptr (N+1) 0,.ptr N 0]]:=Sl.row (by omega) g2 rfl (fun k hk=>by simp at hk;omega)
 have key:=Zp2 (l:=[Zhy m 64 64,Zbx l (hdL m)]) hs rfl (by simp) (Yis (P:=fun f e _=>∀h' n',Keeps H (N+1+1+1) h' n'→FnV A.C f [] h' n' (fun u _ _=>u=.int .i64 e)) (fun h' n' hk=>Yk1 (l:=l) ((hk.get N (by omega)).trans g0) (by have:=hk.le;omega) ((hm.keep kB).keep hk) m1 m2) (fun hz h' n' hk=>Yk0 ((hk.get (N+1) (by omega)).trans g1) (by have:=hk.le;omega) ((hk.get N (by omega)).trans g0) (by have:=hk.le;omega) ((hm.keep kB).keep hk) m1 m2 ((hl.keep kB).keep hk) l1 l2 (Ziv hz sm).pos))
 change Fn A.C 64 _ H _ (fun u _ _=>u=.int .i64 (Zv4 m l))at key
 refine Zac key ?_
 rintro _ H2 n2 k2 rfl
 have le2:=k2.le
 by_cases hE:Zv4 m l=0
 ·have z1:=Zav hE (Zhy m 64 64) (by simp)
  have z2:=Zav hE (Zbx l (hdL m)) (by simp)
  have hM:=Ziv z1 sm
  obtain⟨z3,hL⟩:=Zj7 z2 sl
  have g3:=(k2.get N (by omega)).trans g0
  have kC:=kB.trans k2
  have d1:N<n2:=by omega
  have d2:N+1<n2:=by omega
  simp[hE,g3]
  refine Zac (Zpd (k0:=100) ((hm.keep kC).rat fun r hr=>(hM.row r hr).2) (by simp[Zi0];omega) (fun r hr=>by obtain⟨a1,a2⟩:=hM.rat r hr;exact⟨by have:=hM.n6;omega,a2⟩) (by decide)) ?_
  rintro y H3 n3 k3 hy
  have le3:=k3.le
  have g4:=(k3.get (N+1) (by omega)).trans ((k2.get (N+1) (by omega)).trans g1)
  have d3:N+1<n3:=by omega
  simp[g4]
  refine Zac (Zhu (l:=Zf5 l) (k0:=100) (OkL.sl ((hl.keep kC).keep k3) hL) (by simp[Zf5];omega) hL.qb (by decide)) ?_
  rintro z H4 n4 k4 hz
  have le4:=k4.le
  simp[]
  have n6:=hM.n6
  refine Zac (Zqp (n:=hdL m) (j:=100) (k:=100) (hy.keep k4) hz.1 hM.rat (by simp[Zf5,z3]) hL.qb (by decide) (by decide) (by omega) (by simp[Zi0];have:=hM.le;omega)) ?_
  rintro x H5 n5 k5 hx
  have le5:=k5.le
  simp[]
  have kD:=((kC.trans k3).trans k4).trans k5
  have hq:∀q∈Yct m l,Qb 1207 q:=fun q hq=>by
   obtain⟨r,hr,rfl⟩:=List.mem_map.1 hq
   obtain⟨a1,a2⟩:=hM.rat r hr
   exact Zku (n:=6) a2 hL.qb (by decide) (by decide) (by omega)
  refine Zac (Zsk (l:=Yct m l) (k:=1207) hx.1 (hP.keep kD) (by simp[Yct,Zi0];have:=hM.le;omega) hq (by decide)) ?_
  rintro a H6 n6' k6 ha
  have kE:=kD.trans k6
  rcases ha with⟨t1,rfl⟩|⟨t1,v2,rfl,t2⟩
  ·simp
   refine(Zdk (by simp[-Zaa,d1,d3]<;>omega)).2 ?_
   simp[Ret]
   exact⟨kE,.inr ⟨rfl,.inl ⟨t1,rfl⟩⟩⟩
  ·simp
   refine(Zdk (by simp[-Zaa,d1,d3]<;>omega)).2 ?_
   simp[Ret]
   exact⟨kE,.inr ⟨rfl,.inr ⟨t1,v2,rfl,t2⟩⟩⟩
 ·simp[hE,Ret]
  exact⟨kB.trans k2,.inl ⟨hE,rfl⟩⟩
end Go.Mx
namespace Go.Mx
open Go Go.Proofs
set_option maxRecDepth 1000000
def A.b13:Zae:=sr [bx 2 22 0,bx 3 23 1,mN 4,mc 5 0]
 (sr [⟨(some 8),.mkfunc 81 [] [(.tmp 2)],none⟩,⟨(some 9),.mkfunc 82 [] [(.tmp 3),(.tmp 2)],none⟩,⟨(some 10),.mkfunc 83 [] [(.tmp 3)],none⟩,⟨(some 11),.bslice 94 1 3 [.nilfunc,.nilfunc,.nilfunc] [(0,1,(.tmp 8)),(1,1,(.tmp 9)),(2,1,(.tmp 10))],none⟩,c1 12 64 11,mv 6 12]
 (.seq (sr [mv 13 6,ni 14 13 0]
 (cd 14
 (sr [mv 15 6,mN 4,mv 5 15]
 (.ret))
 (.skip)))
 (sr [ld 16 3,c1 17 72 16,⟨(some 7),.alloc [.nilslice] 97,none⟩,so 7 17]
 (sr [ld 18 2,c1 19 71 18,⟨(some 20),.mkfunc 87 [] [(.tmp 7)],none⟩,c2 21 86 19 20,c1 22 69 21,xt 23 22 0,xt 24 22 1,mv 4 23,mv 5 24]
 (.ret)))))
theorem A.c13:Zal Tryz.prog 13=some ⟨25,[.tmp 4,.tmp 5],A.b13⟩:=by kernel_rfl
def A.k13:=@A.kk 13 _ _ _ A.c13 rfl
theorem Yee{a b c:V}{x y z:Int}{P:V→Int→Prop}(h0:P a x)(h1:x=0→P b y)(h2:x=0→y=0→P c z):∀(j:Nat) (f:V) (e:Int),[a,b,c][j]?=some f→[x,y,z][j]?=some e→(∀(i:Nat) (t:Int),i<j→[x,y,z][i]?=some t→t=0)→P f e
 |0,f,e,hf,he,_=>by simp at hf he;subst hf he;exact h0
 |1,f,e,hf,he,hz=>by simp at hf he;subst hf he;exact h1 (hz 0 x (by omega) rfl)
 |2,f,e,hf,he,hz=>by simp at hf he;subst hf he;exact h2 (hz 0 x (by omega) rfl) (hz 1 y (by omega) rfl)
 |j+3,f,e,hf,_,_=>by simp at hf
def Zsb(m:List (List Str))(l:List Str):Int:=Zak [Zhy m 64 64,if l.length=hdL m then 0 else 2,Zak (l.map (Zep 0))]
def Zwx(m:List (List Str))(l:List Str):List Rat:=(Zi0 m).map fun r=>Zke (wtQ r (Zf5 l)) r
theorem Ycj{l:List Str}{z:Int}(h:Zak (l.map (Zep z))=0)(hs:Za9 6 l=true):OkL l:=fun s hs'=>by
 have h1:=Zav h _ (List.mem_map.2 ⟨s,hs',rfl⟩)
 unfold Za9 at hs
 rw[Bool.and_eq_true]at hs
 have h3:=List.all_eq_true.1 hs.2 s hs'
 simp[Znt]at h3
 refine⟨?_,h3⟩
 unfold Zep at h1
 split at h1
 ·assumption
 ·omega
set_option maxHeartbeats 2000000 in
theorem Yem{h:T O}{N:Nat}{u v:V}{m:List (List Str)}{l:List Str}(hm:MtS h N u m)(hl:Sl h N v (strs l))(hP:P10 h N)(sm:Zcm 6 6 m=true)(sl:Za9 6 l=true):Fn A.C 13 [u,v] h N (fun x h' n'=>Ym6 (Zsb m l) (Zwx m l) x h' n'):=by
 intro w
 obtain⟨m1,m2⟩:=Zet sm
 obtain⟨l1,l2⟩:=Zeu sl
 have o1:V.one u=true∧V.cells u=[u]:=by
  obtain⟨us,⟨_,rfl|rfl⟩|⟨i,o,cp,c,e,rw,rfl,_⟩,_⟩:=hm<;>exact⟨rfl,rfl⟩
 have o2:=hl.form.one
 have o3:=hl.form.cells
 obtain⟨o4,o5⟩:=o1
 rw[Zab,A.k13 (by simp)]
 unfold V.one at o2 o4
 unfold V.cells at o3 o5
 simp[A.b13,o2,o3,o4,o5,splice]
 generalize hH:((h.set N (.cells [u] 22 true)).set (N+1) (.cells [v] 23 true)).set (N+1+1) (.cells [.func 81 [] [.ptr N 0],.func 82 [] [.ptr (N+1) 0,.ptr N 0],.func 83 [] [.ptr (N+1) 0]] 94 true)=H
 have kB:Keeps h N H (N+1+1+1):=by rw[←hH];exact((Keeps.refl.new _).new _).new _
 have g0:H.get N=some (.cells [u] 22 true):=by rw[←hH];simp
 have g1:H.get (N+1)=some (.cells [v] 23 true):=by rw[←hH];simp
 have g2:H.get (N+1+1)=some (.cells [.func 81 [] [.ptr N 0],.func 82 [] [.ptr (N+1) 0,.ptr N 0],.func 83 [] [.ptr (N+1) 0]] 94 true):=by rw[←hH];simp
 clear hH
 have hs:Sl H (N+1+1+1) (.slice (N+1+1) 0 3 (some 3) 1) [.func 81 [] [.ptr N 0],.func 82 [] [.ptr (N+1) 0,.ptr N 0],.func 83 [] [.ptr (N+1) 0]]:=Sl.row (by omega) g2 rfl (fun k hk=>by simp at hk;omega)
 have key:=Zp2 (l:=[Zhy m 64 64,if l.length=hdL m then 0 else 2,Zak (l.map (Zep 0))]) hs rfl (by simp) (Yee (P:=fun f e=>∀h' n',Keeps H (N+1+1+1) h' n'→FnV A.C f [] h' n' (fun u _ _=>u=.int .i64 e)) (fun h' n' hk=>Yi2 (l:=l) ((hk.get N (by omega)).trans g0) (by have:=hk.le;omega) ((hm.keep kB).keep hk) m1 m2) (fun hz h' n' hk=>Yi1 ((hk.get (N+1) (by omega)).trans g1) (by have:=hk.le;omega) ((hk.get N (by omega)).trans g0) (by have:=hk.le;omega) ((hm.keep kB).keep hk) m1 m2 ((hl.keep kB).keep hk) l1 l2 (Ziv hz sm).pos) (fun _ _ h' n' hk=>Yi0 (m:=m) ((hk.get (N+1) (by omega)).trans g1) (by have:=hk.le;omega) ((hl.keep kB).keep hk) l1 l2))
 change Fn A.C 64 _ H _ (fun u _ _=>u=.int .i64 (Zsb m l))at key
 refine Zac key ?_
 rintro _ H2 n2 k2 rfl
 have le2:=k2.le
 by_cases hE:Zsb m l=0
 ·have z1:=Zav hE (Zhy m 64 64) (by simp)
  have z2:=Zav hE (if l.length=hdL m then 0 else 2) (by simp)
  have z4:=Zav hE (Zak (l.map (Zep 0))) (by simp)
  have hM:=Ziv z1 sm
  have z3:l.length=hdL m:=by
   apply Decidable.byContradiction
   intro hc
   rw[if_neg hc]at z2
   exact absurd z2 (by decide)
  have hL:=Ycj z4 sl
  have g3:=(k2.get (N+1) (by omega)).trans g1
  have kC:=kB.trans k2
  simp[hE,g3]
  refine Zac (Zhu (l:=Zf5 l) (k0:=100) (OkL.sl (hl.keep kC) hL) (by simp[Zf5];omega) hL.qb (by decide)) ?_
  rintro z H3 n3 k3 hz
  have le3:=k3.le
  obtain⟨y1,y2,_⟩:=hz.1.form
  have y3:=y1
  have y4:=y2
  unfold V.one at y3
  unfold V.cells at y4
  have g4:=(k3.get N (by omega)).trans ((k2.get N (by omega)).trans g0)
  have d1:¬N=n3:=by omega
  have e4:splice [V.nilslice] 0 [z]=[z]:=rfl
  simp[Zan,y3,y4,e4,g4,d1]
  generalize hG:(H3.set n3 (.cells [.nilslice] 97 true)).set n3 (.cells [z] 97 true)=G
  have kG:Keeps H3 n3 G (n3+1):=by rw[←hG];exact(Keeps.refl.new _).set (Nat.le_refl _)
  have gz:G.get n3=some (.cells [z] 97 true):=by rw[←hG];simp
  clear hG
  have kD:=(kC.trans k3).trans kG
  refine Zac (Zpd (k0:=100) ((hm.keep kD).rat fun r hr=>(hM.row r hr).2) (by simp[Zi0];omega) (fun r hr=>by obtain⟨a1,a2⟩:=hM.rat r hr;exact⟨by have:=hM.n6;omega,a2⟩) (by decide)) ?_
  rintro y H4 n4 k4 hy
  have le4:=k4.le
  have n6:=hM.n6
  simp[]
  have gz4:=(k4.get n3 (by omega)).trans gz
  refine Zac (Ztp (fun r=>Zke (wtQ r (Zf5 l)) r) hy (by simp[Zi0];omega) fun r hr x h' n' hk hx=>?_) ?_
  ·obtain⟨a1,a2⟩:=hM.rat r hr
   exact Yiz (j:=100) (k:=100) ((hk.get n3 (by omega)).trans gz4) (by have:=hk.le;omega) hx.1 (((hz.1.keep kG).keep k4).keep hk) (by simp[Zf5,z3,a1]) a2 hL.qb (by decide) (by decide) (by omega)
  ·rintro x H5 n5 k5 hx
   have le5:=k5.le
   simp[]
   have kE:=(kD.trans k4).trans k5
   have hq:∀q∈Zwx m l,Qb 1807 q:=fun q hq=>by
    obtain⟨r,hr,rfl⟩:=List.mem_map.1 hq
    obtain⟨a1,a2⟩:=hM.rat r hr
    have ew:(wtQ r (Zf5 l)).length=hdL m:=by simp[wtQ,Zf5,z3]
    exact Zku (n:=6) (j:=200) (k:=100) (Zug (n:=(Zf5 l).length) a2 hL.qb (by decide) (by decide)) a2 (by decide) (by decide) (by omega)
   refine Zac (Zsk (l:=Zwx m l) (k:=1807) hx.1 (hP.keep kE) (by simp[Zwx,Zi0];have:=hM.le;omega) hq (by decide)) ?_
   rintro a H6 n6' k6 ha
   have kF:=kE.trans k6
   rcases ha with⟨t1,rfl⟩|⟨t1,v2,rfl,t2⟩
   ·simp[Ret]
    exact⟨by have:=kC.le;omega,kF,.inr ⟨rfl,.inl ⟨t1,rfl⟩⟩⟩
   ·simp[Ret]
    exact⟨by have:=kC.le;omega,kF,.inr ⟨rfl,.inr ⟨t1,v2,rfl,t2⟩⟩⟩
 ·simp[hE,Ret]
  exact⟨kB.trans k2,.inl ⟨hE,rfl⟩⟩
end Go.Mx
