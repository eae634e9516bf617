/-
  lensletref05: Dot, Apply.
-/
import Derived.Test.YtlbophlgohokkaaGreatDoorNbA
import Derived.Test.YtlbophlgohokkaaGreatDoorNdC
set_option linter.all false
namespace Go.Mx
open Go Go.Proofs
variable {N j k:Nat} {b l:List Rat} {h:T O} {m:List (List Rat)} {v:V}
set_option maxRecDepth 1000000
def A.lb20_0:Zae:=.seq (sr [mv 7 6,mv 8 0,ln 9 8,bi 10 .lss 7 9]
 (cd 10
 (.skip)
 (.exit 0)))
 (.seq (.block 1 (.regD [mv 13 5,mv 14 0,mv 15 6,ia 16 1 14 15,ld 17 16,mv 18 1,mv 19 6,ia 20 1 18 19,ld 21 20,c2 22 96 17 21,c2 23 95 13 22,mv 5 23] [0,0,0,6,14,0,0,96,224,510,1023,2047]))
 (.reg [mv 11 6,bc 12 .add 11 1,mv 6 12]))
def A.b20:Zae:=sr [⟨(some 4),.mov (.const (.str [])),none⟩]
 (sr [⟨(some 5),.mov (.const (.str [48])),none⟩]
 (.seq (sr [mc 6 0]
 (.block 0 (.loop A.lb20_0)))
 (sr [mv 24 5,mv 4 24]
 (.ret))))
theorem A.c20:Zal Tryz.prog 20=some ⟨25,[.tmp 4],A.b20⟩:=by kernel_rfl
def A.k20:=@A.kk 20 _ _ _ A.c20 rfl
def A.lb18_0:Zae:=.seq (sr [mv 7 6,mv 8 0,ln 9 8,bi 10 .lss 7 9]
 (cd 10
 (.skip)
 (.exit 0)))
 (.seq (.block 1 (.reg [mv 13 5,mv 14 0,mv 15 6,ia 16 1 14 15,ld 17 16,mv 18 1,c2 19 20 17 18,⟨(some 20),.bslice 36 1 1 [(.str [])] [(0,1,(.tmp 19))],none⟩,⟨(some 21),.append 1 16 36 [(.str [])] (.tmp 13) (.tmp 20),none⟩,mv 5 21]))
 (.reg [mv 11 6,bc 12 .add 11 1,mv 6 12]))
def A.b18:Zae:=sr [mN 4]
 (sr [mN 5]
 (.seq (sr [mc 6 0]
 (.block 0 (.loop A.lb18_0)))
 (sr [mv 22 5,mv 4 22]
 (.ret))))
theorem A.c18:Zal Tryz.prog 18=some ⟨23,[.tmp 4],A.b18⟩:=by kernel_rfl
def A.k18:=@A.kk 18 _ _ _ A.c18 rfl
def Zt1(a b:List Rat):Nat→Rat
 |0=>0
 |k+1=>Zt1 a b k+a[k]?.getD 0*b[k]?.getD 0
def Zke(a b:List Rat):Rat:=Zt1 a b a.length
theorem Qb.zero:Qb 1 0:=⟨by decide,by decide⟩
theorem Zm2{l:List Rat}{k:Nat}(h:∀q∈l,Qb k q)(hk:1≤k)(j:Nat):Qb k (l[j]?.getD 0):=by
 cases hj:l[j]? with
 |none=>exact Qb.zero.mono hk
 |some q=>exact h q (List.mem_of_getElem? hj)
theorem Zpr{a b:List Rat}{j k:Nat}(ha:∀q∈a,Qb j q)(hb:∀q∈b,Qb k q)(hj:1≤j)(hk:1≤k):∀n,Qb (n*(j+k+1)+1) (Zt1 a b n)
 |0=>by simpa[Zt1]using Qb.zero
 |n+1=>by
  have h:=(Zpr ha hb hj hk n).add ((Zm2 ha hj n).mul (Zm2 hb hk n))
  exact h.mono (by rw[Nat.add_mul];omega)
def Tx(h:T O)(N:Nat)(v:V)(l:List Rat):Prop:=Sl h N v (tx l)
theorem Tx.keep{h':T O}{N':Nat}(s:Tx h N v l)(k:Keeps h N h' N'):Tx h' N' v l:=Sl.keep s k
theorem Tx.len(s:Tx h N v l):Zmy v=some l.length:=by
 have:=Sl.len s
 rwa [Zja]at this
theorem Zzw{u:V}{a:List Rat}(hu:Tx h N u a)(hv:Tx h N v b)(hab:a.length≤b.length)(ha:∀q∈a,Qb j q)(hb:∀q∈b,Qb k q)(hj:1≤j)(hk:1≤k)(hl:a.length*(j+k+1)+j+k+1≤400000):Fn A.C 20 [u,v] h N (fun x _ _=>x=.str (Za3 (Zke a b))):=by
 intro w
 have l1:=hu.len
 have l2:=hv.len
 have hal:a.length≤400000:=by have:=Nat.le_mul_of_pos_right a.length (show 0<j+k+1 by omega);omega
 rw[Zab,A.k20 (by simp)]
 simp[A.b20]
 refine Zaj [(5,23)] (fun e r st=>e=.exit 0∧Zaa N st.w=[]∧Keeps h N st.h st.n∧r.get 5=some (.str (Za3 (Zke a b)))) (fun m r st=>Zaa N st.w=[]∧Keeps h N st.h st.n∧∃t,t+m=a.length∧r.get 6=some (.int .i64 t)∧r.get 5=some (.str (Za3 (Zt1 a b t)))) a.length ?_ ?_ ?_
 ·exact⟨by simp,Keeps.refl,0,by omega,by simp,by simp[Zt1,Yh0]⟩
 ·rintro m r ⟨H,n1,W⟩ hr hf ⟨hW,hK,t,ht,h6,h5⟩
  simp only at hW hK
  rw[Zah]
  cases m with
  |zero=>
   obtain rfl:t=a.length:=by omega
   simp[A.lb20_0,hr,hf,h6,h5,l1,hW,hK]
   rfl
  |succ m=>
   have hlt:t<a.length:=by omega
   have hlt':(t:Int)<(a.length:Int):=by omega
   have hlb:t<b.length:=by omega
   have hlb':(t:Int)<(b.length:Int):=by omega
   obtain⟨p,hp⟩:=Zag hlt
   obtain⟨q,hq⟩:=Zag hlb
   have hpb:=ha p (List.mem_of_getElem? hp)
   have hqb:=hb q (List.mem_of_getElem? hq)
   have hsb:=Zpr ha hb hj hk t
   have hmul:t*(j+k+1)≤a.length*(j+k+1):=Nat.mul_le_mul_right _ (by omega)
   have e1:Zt1 a b (t+1)=Zt1 a b t+p*q:=by simp[Zt1,hp,hq]
   obtain⟨i,o,cc,e,rw,q1,q2,q3,q4⟩:=(Sl.keep hu hK).at (Zl8 hp)
   obtain⟨i',o',cc',e',rw',p1,p2,p3,p4⟩:=(Sl.keep hv hK).at (Zl8 hq)
   simp[A.lb20_0,hr,h6,h5,l1,l2,hlt',hlb',q1,q2,q3,q4,p1,p2,p3,p4]
   refine Zac (Yaf hpb hqb (by omega) (by omega)) ?_
   rintro _ H2 n2 k2 rfl
   simp[]
   refine Zac (Yk4 hsb (hpb.mul hqb) (by omega) (by omega)) ?_
   rintro _ H3 n3 k3 rfl
   rw[←e1]
   simp(disch:=first|(simp;done)|omega|rfl) [hf,h6,hW]
   exact⟨m,by omega,(hK.trans k2).trans k3,t+1,by omega,by simp,by simp⟩
 ·rintro _ r ⟨H,n1,W⟩ hr ⟨rfl,hW,hK,h5⟩
  simp only at hW hK
  simp[h5,Ret,hW,hK]
def TxM(h:T O)(N:Nat)(v:V)(m:List (List Rat)):Prop:=∃us:List V,Sl h N v us∧us.length=m.length∧∀(j:Nat) (l:List Rat),m[j]?=some l→∃u,us[j]?=some u∧Tx h N u l
theorem TxM.keep{h':T O}{N':Nat}(s:TxM h N v m)(k:Keeps h N h' N'):TxM h' N' v m:=by
 obtain⟨us,h1,h2,h3⟩:=s
 refine⟨us,h1.keep k,h2,fun j l hl=>?_⟩
 obtain⟨u,g1,g2⟩:=h3 j l hl
 exact⟨u,g1,g2.keep k⟩
theorem TxM.len(s:TxM h N v m):Zmy v=some m.length:=by
 obtain⟨us,h1,h2,_⟩:=s
 rw[h1.len,h2]
theorem TxM.at(s:TxM h N v m){j:Nat}{l:List Rat}(hj:m[j]?=some l):∃i o c e rw u,Znn v=some (i,o)∧i<N∧h.get i=some (.cells c e rw)∧c[o+j]?=some u∧Tx h N u l:=by
 obtain⟨us,h1,h2,h3⟩:=s
 obtain⟨u,g1,g2⟩:=h3 j l hj
 obtain⟨i,o,c,e,rw,q1,q2,q3,q4⟩:=h1.at g1
 exact⟨i,o,c,e,rw,u,q1,q2,q3,q4,g2⟩
theorem Zqo{u:V}{n:Nat}(hu:TxM h N u m)(hv:Tx h N v b)(hm:∀r∈m,r.length=n∧∀q∈r,Qb j q)(hn:n≤b.length)(hb:∀q∈b,Qb k q)(hj:1≤j)(hk:1≤k)(hl:n*(j+k+1)+j+k+1≤400000)(hml:m.length<100000):Fn A.C 18 [u,v] h N (fun x h' n'=>Own 1 36 N h' n' x ((tx (m.map fun r=>Zke r b)).map fun y=>[y])):=by
 intro w
 have l1:=hu.len
 rw[Zab,A.k18 (by simp)]
 simp[A.b18]
 refine Zaj [(5,21)] (fun e r st=>e=.exit 0∧Zaa N st.w=[]∧Keeps h N st.h st.n∧∃x,r.get 5=some x∧Own 1 36 N st.h st.n x ((tx (m.map fun r=>Zke r b)).map fun y=>[y])) (fun i r st=>Zaa N st.w=[]∧Keeps h N st.h st.n∧∃t x,t+i=m.length∧r.get 6=some (.int .i64 t)∧r.get 5=some x∧Own 1 36 N st.h st.n x ((tx ((m.take t).map fun r=>Zke r b)).map fun y=>[y])) m.length ?_ ?_ ?_
 ·exact⟨by simp,Keeps.refl,0,.nilslice,by omega,by simp,by simp,by simpa[tx,strs]using Own.nil⟩
 ·rintro i r ⟨H,n1,W⟩ hr hf ⟨hW,hK,t,x,ht,h6,h5,ho⟩
  simp only at hW hK ho
  rw[Zah]
  cases i with
  |zero=>
   obtain rfl:t=m.length:=by omega
   rw[List.take_length]at ho
   simp[A.lb18_0,hr,hf,h6,h5,l1,hW,hK]
   exact ho
  |succ i=>
   have hlt:t<m.length:=by omega
   have hlt':(t:Int)<(m.length:Int):=by omega
   obtain⟨row,hrow⟩:=Zag hlt
   obtain⟨a1,a2⟩:=hm row (List.mem_of_getElem? hrow)
   obtain⟨i',o,cc,e,rw,ru,q1,q2,q3,q4,q5⟩:=(hu.keep hK).at hrow
   simp[A.lb18_0,hr,h6,h5,l1,hlt',q1,q3,q4]
   refine Zac (Zzw q5 (hv.keep hK) (by omega) a2 hb hj hk (by rw[a1];exact hl)) ?_
   rintro _ H2 n2 k2 rfl
   have le2:=k2.le
   have nle:=hK.le
   have hl':(((tx ((m.take t).map fun r=>Zke r b)).map fun y=>[y])).length≤100000:=by simp[Zja];omega
   obtain⟨v',h',w',f1,f2,f3,_,f5⟩:=Zbh (x:=[.str (Za3 (Zke row b))]) (u:=.slice n2 0 1 (some 1) 1) (bytes:=16) (w:=W) ((ho.keep k2).keep (Keeps.refl.new (.cells [.str (Za3 (Zke row b))] 36 true))) (by omega) (by decide) rfl (by simp[Za0,St.row,slc]) (by omega)
   have e7:((tx ((m.take t).map fun r=>Zke r b)).map fun y=>[y])++[[.str (Za3 (Zke row b))]]=(tx ((m.take (t+1)).map fun r=>Zke r b)).map fun y=>[y]:=by rw[List.take_add_one,hrow];simp[tx,strs]
   rw[e7]at f5
   simp(disch:=first|(simp;done)|omega|rfl) [hf,h6,splice,f1]
   exact⟨i,by omega,by rw[f2];exact hW,((hK.trans k2).trans (Keeps.refl.new (.cells [.str (Za3 (Zke row b))] 36 true))).then f3,t+1,by omega,by simp,by rw[←List.map_take];exact f5⟩
 ·rintro _ r ⟨H,n1,W⟩ hr ⟨rfl,hW,hK,x,h5,ho⟩
  simp only at hW hK ho
  simp[h5,Ret,hW,hK]
  exact ho
end Go.Mx
namespace Go.Mx
open Go Go.Proofs
variable {N n:Nat} {h h':T O} {l:List Rat} {m:List (List Rat)} {u v:V} {w:List Nat}
set_option maxRecDepth 1000000
def A.lb19_0:Zae:=.seq (sr [mv 20 6,mv 21 0,ln 22 21,bi 23 .lss 20 22]
 (cd 23
 (.skip)
 (.exit 2)))
 (.seq (.block 3 (.reg [mv 26 5,mv 27 0,mv 28 6,ia 29 1 27 28,ld 30 29,mv 31 4,ia 32 1 30 31,ld 33 32,⟨(some 34),.bslice 36 1 1 [(.str [])] [(0,1,(.tmp 33))],none⟩,⟨(some 35),.append 1 16 36 [(.str [])] (.tmp 26) (.tmp 34),none⟩,mv 5 35]))
 (.reg [mv 24 6,bc 25 .add 24 1,mv 6 25]))
def A.lb19_1:Zae:=.seq (sr [mv 7 0,ln 8 7,bc 9 .gtr 8 0,mv 10 9,mg 11 4 10,mg 12 0 10,⟨(some 13),.iaddrSl 1 (.tmp 12) (.const (.int .i64 0)),(some (10,true))⟩,⟨(some 14),.load none (.tmp 13),(some (10,true))⟩,⟨(some 15),.len 1 (.tmp 14),(some (10,true))⟩,⟨(some 16),.bin .lss (.node []) false (.tmp 11) (.tmp 15),(some (10,true))⟩,pf 17 10 16]
 (cd 17
 (.skip)
 (.exit 0)))
 (.seq (.block 1 (sr [mN 5]
 (.seq (sr [mc 6 0]
 (.block 2 (.loop A.lb19_0)))
 (.reg [mv 36 3,mv 37 5,⟨(some 38),.bslice 23 1 1 [.nilslice] [(0,1,(.tmp 37))],none⟩,⟨(some 39),.append 1 24 23 [.nilslice] (.tmp 36) (.tmp 38),none⟩,mv 3 39]))))
 (.reg [mv 18 4,bc 19 .add 18 1,mv 4 19]))
def A.b19:Zae:=sr [mN 2]
 (sr [mN 3]
 (.seq (sr [mc 4 0]
 (.block 0 (.loop A.lb19_1)))
 (sr [mv 40 3,mv 2 40]
 (.ret))))
theorem A.c19:Zal Tryz.prog 19=some ⟨41,[.tmp 2],A.b19⟩:=by kernel_rfl
def A.k19:=@A.kk 19 _ _ _ A.c19 rfl
def A.lb21_0:Zae:=.seq (sr [mv 15 8,mv 16 1,ln 17 16,bi 18 .lss 15 17]
 (cd 18
 (.skip)
 (.exit 2)))
 (.seq (.block 3 (.regD [mv 21 7,mv 22 0,mv 23 6,ia 24 1 22 23,ld 25 24,mv 26 8,ia 27 1 25 26,ld 28 27,mv 29 1,mv 30 8,ia 31 1 29 30,ld 32 31,c2 33 96 28 32,⟨(some 34),.bslice 36 1 1 [(.str [])] [(0,1,(.tmp 33))],none⟩,⟨(some 35),.append 1 16 36 [(.str [])] (.tmp 21) (.tmp 34),none⟩,mv 7 35] [0,0,0,6,14,0,62,126,0,0,768,1792,4094,8190,16383,32767]))
 (.reg [mv 19 8,bc 20 .add 19 1,mv 8 20]))
def A.lb21_1:Zae:=.seq (sr [mv 9 6,mv 10 0,ln 11 10,bi 12 .lss 9 11]
 (cd 12
 (.skip)
 (.exit 0)))
 (.seq (.block 1 (sr [mN 7]
 (.seq (sr [mc 8 0]
 (.block 2 (.loop A.lb21_0)))
 (.reg [mv 36 5,mv 37 7,⟨(some 38),.bslice 23 1 1 [.nilslice] [(0,1,(.tmp 37))],none⟩,⟨(some 39),.append 1 24 23 [.nilslice] (.tmp 36) (.tmp 38),none⟩,mv 5 39]))))
 (.reg [mv 13 6,bc 14 .add 13 1,mv 6 14]))
def A.b21:Zae:=sr [mN 4]
 (sr [mN 5]
 (.seq (sr [mc 6 0]
 (.block 0 (.loop A.lb21_1)))
 (sr [mv 40 5,mv 4 40]
 (.ret))))
theorem A.c21:Zal Tryz.prog 21=some ⟨41,[.tmp 4],A.b21⟩:=by kernel_rfl
def A.k21:=@A.kk 21 _ _ _ A.c21 rfl
def TxT(h:T O)(N:Nat)(u:V)(l:List Rat):Prop:=Tx h N u l∧∀i∈Zev u,∃z w,h.get i=some (.cells z 36 w)
theorem Zzp{l:List V}(s:Sl h N v l):∀i∈Zev v,i<N:=fun i hi=>by
 rcases s with⟨_,rfl|rfl⟩|⟨j,o,cp,c,e,rw,rfl,hj,_⟩
 ·simp[Zev]at hi
 ·simp[Zev]at hi
 ·simp[Zev]at hi;omega
theorem TxT.keep{N':Nat}(s:TxT h N u l)(k:Keeps h N h' N'):TxT h' N' u l:=⟨s.1.keep k,fun i hi=>by rw[k.get i (Zzp s.1 i hi)];exact s.2 i hi⟩
theorem TxT.moved{n':Nat}{Y:V→Prop}{e:TypeId}(s:TxT h n u l)(k:Upd (fun i=>i∈Zev v) h n h' n')(hd:Zys e Y h v)(he:e≠36):TxT h' n' u l:=by
 have hn:∀i∈Zev u,i∉Zev v:=fun i hi hc=>by
  obtain⟨z,w,hz⟩:=s.2 i hi
  obtain⟨z2,hz2,_⟩:=hd i hc
  rw[hz]at hz2
  simp at hz2
  exact he hz2.2.1.symm
 exact⟨Sl.moved s.1 k hn,fun i hi=>by rw[k.get i (Zzp s.1 i hi) (hn i hi)];exact s.2 i hi⟩
theorem Zu1{N0:Nat}(s:Own 1 36 N0 h N v ((tx l).map fun y=>[y])):TxT h N v l:=by
 refine⟨Sn.one.1 s.sn,fun i hi=>?_⟩
 obtain⟨_,⟨_,rfl⟩|⟨j,rfl,_,_,hg⟩⟩:=s
 ·simp[Zev]at hi
 ·simp[Zev]at hi;subst hi;exact⟨_,_,hg⟩
def MtO(N0:Nat)(h:T O)(N:Nat)(v:V)(m:List (List Rat)):Prop:=∃us:List V,Own 1 23 N0 h N v (us.map fun y=>[y])∧(us=[]→v=.nilslice)∧us.length=m.length∧∀(j:Nat) (l:List Rat),m[j]?=some l→∃u,us[j]?=some u∧TxT h N u l
theorem MtO.nil{N0:Nat}:MtO N0 h N .nilslice []:=⟨[],Own.nil,fun _=>rfl,rfl,fun j l hl=>by simp at hl⟩
theorem MtO.keep{N0:Nat}{N':Nat}(s:MtO N0 h N v m)(k:Keeps h N h' N'):MtO N0 h' N' v m:=by
 obtain⟨us,h1,h2,h3,h4⟩:=s
 refine⟨us,h1.keep k,h2,h3,fun j l hl=>?_⟩
 obtain⟨u,g1,g2⟩:=h4 j l hl
 exact⟨u,g1,g2.keep k⟩
theorem MtO.txm{N0:Nat}(s:MtO N0 h N v m):TxM h N v m:=by
 obtain⟨us,h1,h2,h3,h4⟩:=s
 refine⟨us,Sn.one.1 h1.sn,h3,fun j l hl=>?_⟩
 obtain⟨u,g1,g2⟩:=h4 j l hl
 exact⟨u,g1,g2.1⟩
theorem MtO.push{N0:Nat}{x:V}(s:MtO N0 h N v m)(hu:TxT h N u l)(hN:N0≤N)(hx:Za0 ⟨h,N,w⟩ 1 x=some (1,[u]))(hm:m.length<100000):
  ∃v' h' w',Zcd ⟨h,N,w⟩ 1 24 23 v x=some (v',⟨h',N+1,w'⟩)∧Zaa N0 w'=Zaa N0 w∧Keeps h N0 h' (N+1)∧MtO N0 h' (N+1) v' (m++[l]):=by
 obtain⟨us,h1,h2,h3,h4⟩:=s
 obtain⟨v',h',w',f1,f2,f3,f4,fD,f5⟩:=Zgm (Y:=fun _=>True) (x:=[u]) (u:=x) (bytes:=24) (w:=w) h1 (fun h0=>h2 (List.map_eq_nil_iff.1 h0)) (fun _ _ _ _=>trivial) hN (by decide) rfl hx (by rw[List.length_map];omega)
 refine⟨v',h',w',f1,f2,f3,us++[u],by simpa using f5,by simp,by simp[h3],fun j r hr=>?_⟩
 by_cases hj:j<m.length
 ·rw[List.getElem?_append_left hj]at hr
  obtain⟨u',g1,g2⟩:=h4 j r hr
  exact⟨u',by rw[List.getElem?_append_left (by omega)];exact g1,g2.moved f4 fD (by simp)⟩
 ·rw[List.getElem?_append_right (by omega)]at hr
  cases hd:j-m.length with
  |zero=>
   rw[hd]at hr
   simp at hr
   subst hr
   exact⟨u,by rw[List.getElem?_append_right (by omega),h3,hd];rfl,hu.moved f4 fD (by simp)⟩
  |succ d=>rw[hd]at hr;simp at hr
theorem Zu4{N i:Nat}:∀{w:List Nat},i∈w→i<N→i∈Zaa N w
 |[],h,_=>by simp at h
 |j::w,h,hi=>by
  simp only[Zaa]
  rcases List.mem_cons.1 h with rfl|h
  ·rw[if_pos hi]
   unfold Zfn
   split
   ·rename_i hc;simpa using hc
   ·exact List.mem_cons_self
  ·have:=Zu4 h hi
   split
   ·unfold Zfn
    split
    ·exact this
    ·exact List.mem_cons_of_mem _ this
   ·exact this
theorem Zu3{n1:Nat}{w':List Nat}(h:Zaa n1 w'=Zaa n1 w)(hN:N≤n1)(hw:Zaa N w=[]):Zaa N w'=[]:=by
 apply List.eq_nil_iff_forall_not_mem.2
 intro i hi
 obtain⟨h1,h2⟩:=Zks hi
 have h3:=Zu4 h1 (show i<n1 by omega)
 rw[h]at h3
 have h4:=Zu4 (Zks h3).1 h2
 rw[hw]at h4
 simp at h4
theorem Zz7(h:Zaa N w=[]):∀i∈w,N≤i:=fun i hi=>by
 apply Nat.le_of_not_lt
 intro hc
 have:=Zu4 hi hc
 rw[h]at this
 simp at this
theorem Yiv{a b:List Nat}(ha:Zaa N a=[])(hb:Zaa N b=[]):Zaa N (Zaa n a++b)=[]:=Zph fun i hi=>by
 rcases List.mem_append.1 hi with hi|hi
 ·exact Zz7 ha i (Zks hi).1
 ·exact Zz7 hb i hi
def Zsc(m:List (List Rat))(k:Nat):List Rat:=m.map fun r=>r[k]?.getD 0
def Ze7(m:List (List Rat))(n:Nat):List (List Rat):=(List.range n).map fun k=>Zsc m k
theorem Yf3{k t:Nat}{r:List Rat}{q:Rat}(h:m[t]?=some r)(hq:r[k]?=some q):Zsc (m.take (t+1)) k=Zsc (m.take t) k++[q]:=by
 unfold Zsc
 rw[List.take_add_one,h]
 simp[hq]
set_option maxHeartbeats 1000000 in
theorem Yd2(hu:TxM h N u m)(hm:∀r∈m,r.length=n)(hml:m.length<1000)(hn:n<1000)(h0:0<m.length):Fn A.C 19 [u] h N (fun x h' n'=>MtO N h' n' x (Ze7 m n)):=by
 intro w
 have l1:=hu.len
 obtain⟨r0,hr0⟩:=Zag h0
 have hr0n:=hm r0 (List.mem_of_getElem? hr0)
 have h0':(0:Int)<(m.length:Int):=by omega
 rw[Zab,A.k19 (by simp)]
 simp[A.b19]
 refine Zaj [(3,39)] (fun e r st=>e=.exit 0∧Zaa N st.w=[]∧Keeps h N st.h st.n∧∃x,r.get 3=some x∧MtO N st.h st.n x (Ze7 m n)) (fun i r st=>Zaa N st.w=[]∧Keeps h N st.h st.n∧∃k x,k+i=n∧r.get 4=some (.int .i64 k)∧r.get 3=some x∧MtO N st.h st.n x (Ze7 m k)) n ?_ ?_ ?_
 ·exact⟨by simp,Keeps.refl,0,.nilslice,by omega,by simp,by simp,MtO.nil⟩
 ·rintro i r ⟨H,n1,W⟩ hr hf ⟨hW,hK,k,x,hk,h4,h3,ho⟩
  simp only at hW hK ho
  obtain⟨i0,o0,c0,e0,rw0,u0,z1,z2,z3,z4,z5⟩:=(hu.keep hK).at hr0
  have z6:=z5.len
  rw[hr0n]at z6
  rw[Nat.add_zero]at z4
  rw[Zah]
  cases i with
  |zero=>
   obtain rfl:k=n:=by omega
   simp[A.lb19_1,hr,hf,h4,h3,l1,h0,z1,z3,z4,z6,hW,hK]
   exact ho
  |succ i=>
   have hlt:k<n:=by omega
   have hlt':(k:Int)<(n:Int):=by omega
   simp[A.lb19_1,hr,h4,l1,h0,z1,z3,z4,z6,hlt']
   refine Zaj [(5,6),(20,35)] (fun e r1 st=>e=.exit 2∧Zaa N st.w=[]∧Keeps H n1 st.h st.n∧∃y,r1.get 5=some y∧TxT st.h st.n y (Zsc m k)) (fun j r1 st=>Zaa N st.w=[]∧Keeps H n1 st.h st.n∧∃t y,t+j=m.length∧r1.get 6=some (.int .i64 t)∧r1.get 5=some y∧Own 1 36 n1 st.h st.n y ((tx (Zsc (m.take t) k)).map fun y=>[y])) m.length ?_ ?_ ?_
   ·exact⟨hW,Keeps.refl,0,.nilslice,by omega,by simp,by simp,by simpa[Zsc,tx,strs]using Own.nil⟩
   ·rintro j r1 ⟨H2,n2,W2⟩ hr1 hf1 ⟨hW2,hK2,t,y,ht,h6,h5,hy⟩
    simp only at hW2 hK2 hy
    rw[Zah]
    cases j with
    |zero=>
     obtain rfl:t=m.length:=by omega
     rw[List.take_length]at hy
     simp[A.lb19_0,hr,hr1,hf1,h6,h5,l1,hW2,hK2]
     exact Zu1 hy
    |succ j=>
     have hlt2:t<m.length:=by omega
     have hlt2':(t:Int)<(m.length:Int):=by omega
     obtain⟨row,hrow⟩:=Zag hlt2
     have hrn:=hm row (List.mem_of_getElem? hrow)
     obtain⟨q,hq⟩:=Zag (l:=row) (k:=k) (by omega)
     obtain⟨i1,o1,c1,e1,rw1,u1,q1,q2,q3,q4,q5⟩:=((hu.keep hK).keep hK2).at hrow
     have q6:=q5.len
     rw[hrn]at q6
     obtain⟨i3,o3,c3,e3,rw3,p1,p2,p3,p4⟩:=Sl.at q5 (Zl8 hq)
     have nle:=hK.le
     have nle2:=hK2.le
     obtain⟨v',h',w',f1,f2,f3,_,f5⟩:=Zbh (x:=[.str (Za3 q)]) (u:=.slice n2 0 1 (some 1) 1) (bytes:=16) (w:=W2) (hy.keep (Keeps.refl.new (.cells [.str (Za3 q)] 36 true))) (by omega) (by decide) rfl (by simp[Za0,St.row,slc]) (by simp[Zja,Zsc];omega)
     have e7:((tx (Zsc (m.take t) k)).map fun y=>[y])++[[.str (Za3 q)]]=(tx (Zsc (m.take (t+1)) k)).map fun y=>[y]:=by rw[Yf3 hrow hq];simp[tx,strs]
     rw[e7]at f5
     simp(disch:=first|(simp;done)|omega|rfl) [A.lb19_0,hr,hr1,hf1,h4,h6,h5,l1,hlt2',q1,q3,q4,q6,p1,p3,p4,splice,f1]
     have ow:Zaa N w'=[]:=Zu3 f2 (by omega) hW2
     exact⟨j,by omega,ow,(hK2.trans (Keeps.refl.new (.cells [.str (Za3 q)] 36 true))).then f3,t+1,by omega,by simp,f5⟩
   ·rintro _ r1 ⟨H2,n2,W2⟩ hr1 ⟨rfl,hW2,hK2,y,h5,hy⟩
    simp only at hW2 hK2 hy
    have nle:=hK.le
    have nle2:=hK2.le
    have hyo:=(Sl.form hy.1).one
    have hyc:=(Sl.form hy.1).cells
    unfold V.one at hyo
    unfold V.cells at hyc
    obtain⟨v',h',w',f1,f2,f3,f4⟩:=((ho.keep hK2).keep (Keeps.refl.new (.cells [y] 23 true))).push (w:=W2) (x:=.slice n2 0 1 (some 1) 1) (hy.keep (Keeps.refl.new (.cells [y] 23 true))) (by omega) (by simp[Za0,St.row,slc]) (by simp[Ze7];omega)
    have e8:Ze7 m k++[Zsc m k]=Ze7 m (k+1):=by simp[Ze7,List.range_succ]
    rw[e8]at f4
    have hfi:=hf.inner (D':=[(5,6),(20,35)]) rfl (by simp) hr1
    simp(disch:=first|(simp;done)|omega|rfl) [hr1,hfi,h4,h3,h5,hyo,hyc,splice,f1]
    exact⟨i,by omega,by rw[f2];exact hW2,(((hK.trans hK2).trans (Keeps.refl.new (.cells [y] 23 true)))).then f3,k+1,by omega,by simp,f4⟩
 ·rintro _ r ⟨H,n1,W⟩ hr ⟨rfl,hW,hK,x,h3,ho⟩
  simp only at hW hK ho
  simp[h3,Ret,hW,hK]
  exact ho
def wtQ(r w:List Rat):List Rat:=(List.range w.length).map fun k=>r[k]?.getD 0*w[k]?.getD 0
def wtN(r w:List Rat)(n:Nat):List Rat:=(List.range n).map fun k=>r[k]?.getD 0*w[k]?.getD 0
theorem Yc7{r w:List Rat}{t:Nat}{p q:Rat}(hp:r[t]?=some p)(hq:w[t]?=some q):wtN r w (t+1)=wtN r w t++[p*q]:=by
 simp[wtN,List.range_succ,hp,hq]
set_option maxHeartbeats 1000000 in
theorem Zwm{b:List Rat}{j k:Nat}(hu:TxM h N u m)(hv:Tx h N v b)(hm:∀r∈m,r.length=b.length∧∀q∈r,Qb j q)(hb:∀q∈b,Qb k q)(hj:j≤400000)(hk:k≤400000)(hml:m.length<1000)(hbl:b.length<1000):Fn A.C 21 [u,v] h N (fun x h' n'=>MtO N h' n' x (m.map fun r=>wtQ r b)):=by
 intro w
 have l1:=hu.len
 have l2:=hv.len
 rw[Zab,A.k21 (by simp)]
 simp[A.b21]
 refine Zaj [(5,39)] (fun e r st=>e=.exit 0∧Zaa N st.w=[]∧Keeps h N st.h st.n∧∃x,r.get 5=some x∧MtO N st.h st.n x (m.map fun r=>wtQ r b)) (fun i r st=>Zaa N st.w=[]∧Keeps h N st.h st.n∧∃t x,t+i=m.length∧r.get 6=some (.int .i64 t)∧r.get 5=some x∧MtO N st.h st.n x ((m.take t).map fun r=>wtQ r b)) m.length ?_ ?_ ?_
 ·exact⟨by simp,Keeps.refl,0,.nilslice,by omega,by simp,by simp,by simpa using MtO.nil⟩
 ·rintro i r ⟨H,n1,W⟩ hr hf ⟨hW,hK,t,x,ht,h6,h5,ho⟩
  simp only at hW hK ho
  rw[Zah]
  cases i with
  |zero=>
   obtain rfl:t=m.length:=by omega
   rw[List.take_length]at ho
   simp[A.lb21_1,hr,hf,h6,h5,l1,hW,hK]
   exact ho
  |succ i=>
   have hlt:t<m.length:=by omega
   have hlt':(t:Int)<(m.length:Int):=by omega
   obtain⟨row,hrow⟩:=Zag hlt
   obtain⟨a1,a2⟩:=hm row (List.mem_of_getElem? hrow)
   simp[A.lb21_1,hr,h6,l1,hlt']
   refine Zaj [(7,8),(15,35)] (fun e r1 st=>e=.exit 2∧Zaa N st.w=[]∧Keeps H n1 st.h st.n∧∃y,r1.get 7=some y∧TxT st.h st.n y (wtQ row b)) (fun s r1 st=>Zaa N st.w=[]∧Keeps H n1 st.h st.n∧∃c y,c+s=b.length∧r1.get 8=some (.int .i64 c)∧r1.get 7=some y∧Own 1 36 n1 st.h st.n y ((tx (wtN row b c)).map fun y=>[y])) b.length ?_ ?_ ?_
   ·exact⟨hW,Keeps.refl,0,.nilslice,by omega,by simp,by simp,by simpa[wtN,tx,strs]using Own.nil⟩
   ·rintro s r1 ⟨H2,n2,W2⟩ hr1 hf1 ⟨hW2,hK2,c,y,hc,h8,h7,hy⟩
    simp only at hW2 hK2 hy
    rw[Zah]
    cases s with
    |zero=>
     obtain rfl:c=b.length:=by omega
     simp[A.lb21_0,hr,hr1,hf1,h8,h7,l2,hW2,hK2]
     exact Zu1 hy
    |succ s=>
     have hlt2:c<b.length:=by omega
     have hlt2':(c:Int)<(b.length:Int):=by omega
     obtain⟨q,hq⟩:=Zag hlt2
     obtain⟨p,hp⟩:=Zag (l:=row) (k:=c) (by omega)
     obtain⟨i1,o1,c1,e1,rw1,u1,q1,q2,q3,q4,q5⟩:=((hu.keep hK).keep hK2).at hrow
     have q6:=q5.len
     rw[a1]at q6
     obtain⟨i3,o3,c3,e3,rw3,p1,p2,p3,p4⟩:=Sl.at q5 (Zl8 hp)
     obtain⟨i4,o4,c4,e4,rw4,z1,z2,z3,z4⟩:=Sl.at ((hv.keep hK).keep hK2) (Zl8 hq)
     have nle:=hK.le
     have nle2:=hK2.le
     simp[A.lb21_0,hr,hr1,h6,h7,h8,l1,l2,hlt2',hlt',q1,q2,q3,q4,q6,p1,p2,p3,p4,z1,z2,z3,z4]
     refine Zac (Yaf (a2 p (List.mem_of_getElem? hp)) (hb q (List.mem_of_getElem? hq)) hj hk) ?_
     rintro _ H3 n3 k3 rfl
     have le3:=k3.le
     obtain⟨v',h',w',f1,f2,f3,_,f5⟩:=Zbh (x:=[.str (Za3 (p*q))]) (u:=.slice n3 0 1 (some 1) 1) (bytes:=16) (w:=[]) ((hy.keep k3).keep (Keeps.refl.new (.cells [.str (Za3 (p*q))] 36 true))) (by omega) (by decide) rfl (by simp[Za0,St.row,slc]) (by simp[Zja,wtN];omega)
     have e7:((tx (wtN row b c)).map fun y=>[y])++[[.str (Za3 (p*q))]]=(tx (wtN row b (c+1))).map fun y=>[y]:=by rw[Yc7 hp hq];simp[tx,strs]
     rw[e7]at f5
     have ow:Zaa N w'=[]:=Zu3 f2 (by omega) rfl
     have r1':i1<n2:=q2
     have r3':i3<n2:=p2
     have r4':i4<n2:=z2
     simp(disch:=first|(simp;done)|omega|rfl) [-Zaa,hf1,h8,splice,f1]
     exact⟨s,by omega,Yiv ow hW2,((hK2.trans k3).trans (Keeps.refl.new (.cells [.str (Za3 (p*q))] 36 true))).then f3,c+1,by omega,by simp,f5⟩
   ·rintro _ r1 ⟨H2,n2,W2⟩ hr1 ⟨rfl,hW2,hK2,y,h7,hy⟩
    simp only at hW2 hK2 hy
    have nle:=hK.le
    have nle2:=hK2.le
    have hyo:=(Sl.form hy.1).one
    have hyc:=(Sl.form hy.1).cells
    unfold V.one at hyo
    unfold V.cells at hyc
    obtain⟨v',h',w',f1,f2,f3,f4⟩:=((ho.keep hK2).keep (Keeps.refl.new (.cells [y] 23 true))).push (w:=W2) (x:=.slice n2 0 1 (some 1) 1) (hy.keep (Keeps.refl.new (.cells [y] 23 true))) (by omega) (by simp[Za0,St.row,slc]) (by simp;omega)
    have e8:(m.take t).map (fun r=>wtQ r b)++[wtQ row b]=(m.take (t+1)).map fun r=>wtQ r b:=by rw[List.take_add_one,hrow];simp
    rw[e8]at f4
    have hfi:=hf.inner (D':=[(7,8),(15,35)]) rfl (by simp) hr1
    simp(disch:=first|(simp;done)|omega|rfl) [hr1,hfi,h6,h7,h5,hyo,hyc,splice,f1]
    exact⟨i,by omega,by rw[f2];exact hW2,(((hK.trans hK2).trans (Keeps.refl.new (.cells [y] 23 true)))).then f3,t+1,by omega,by simp,by rw[←List.map_take];exact f4⟩
 ·rintro _ r ⟨H,n1,W⟩ hr ⟨rfl,hW,hK,x,h5,ho⟩
  simp only at hW hK ho
  simp[h5,Ret,hW,hK]
  exact ho
end Go.Mx
namespace Go.Mx
open Go Go.Proofs
variable {N n:Nat} {h:T O} {m:List (List Str)} {v:V} {w:List Nat}
set_option maxRecDepth 1000000
def A.lb9_0:Zae:=.seq (sr [mv 20 5,mv 21 0,ln 22 21,bi 23 .lss 20 22]
 (cd 23
 (.skip)
 (.exit 0)))
 (.seq (.block 1 (sr [mv 26 0,mv 27 5,ia 28 1 26 27,ld 29 28,⟨(some 30),.len 0 (.tmp 29),none⟩,bc 31 .gtr 30 24]
 (cd 31
 (sr [⟨(some 4),.mov (.const (.bool false)),none⟩]
 (.ret))
 (.skip))))
 (.reg [mv 24 5,bc 25 .add 24 1,mv 5 25]))
def A.b9:Zae:=sr [⟨(some 4),.mov (.const (.bool false)),none⟩]
 (.seq (sr [mv 6 0,ln 7 6,mv 8 1,bi 9 .gtr 7 8,mv 10 9,mg 11 0 10,⟨(some 12),.len 1 (.tmp 11),(some (10,true))⟩,⟨(some 13),.bin .leq (.node []) false (.tmp 12) (.const (.int .i64 64)),(some (10,true))⟩,pf 14 10 13,mv 15 14,mh 16 0 15,⟨(some 17),.len 1 (.tmp 16),(some (15,false))⟩,⟨(some 18),.bin .gtr (.node []) false (.tmp 17) (.const (.int .i64 66)),(some (15,false))⟩,pt 19 15 18]
 (cd 19
 (sr [⟨(some 4),.mov (.const (.bool false)),none⟩]
 (.ret))
 (.skip)))
 (.seq (sr [mc 5 0]
 (.block 0 (.loop A.lb9_0)))
 (sr [⟨(some 4),.mov (.const (.bool true)),none⟩]
 (.ret))))
theorem A.c9:Zal Tryz.prog 9=some ⟨32,[.tmp 4],A.b9⟩:=by kernel_rfl
def A.k9:=@A.kk 9 _ _ _ A.c9 rfl
def A.lb8_0:Zae:=.seq (sr [mv 22 7,mv 23 0,ln 24 23,bi 25 .lss 22 24]
 (cd 25
 (.skip)
 (.exit 0)))
 (.seq (.block 1 (sr [mv 28 0,mv 29 7,ia 30 1 28 29,ld 31 30,mv 32 2,c2 33 9 31 32,⟨(some 34),.un .not (.tmp 33),none⟩]
 (cd 34
 (sr [⟨(some 6),.mov (.const (.bool false)),none⟩]
 (.ret))
 (.skip))))
 (.reg [mv 26 7,bc 27 .add 26 1,mv 7 27]))
def A.b8:Zae:=sr [⟨(some 6),.mov (.const (.bool false)),none⟩]
 (.seq (sr [mv 8 0,ln 9 8,mv 10 1,bi 11 .gtr 9 10,mv 12 11,mg 13 0 12,⟨(some 14),.len 1 (.tmp 13),(some (12,true))⟩,⟨(some 15),.bin .leq (.node []) false (.tmp 14) (.const (.int .i64 64)),(some (12,true))⟩,pf 16 12 15,mv 17 16,mh 18 0 17,⟨(some 19),.len 1 (.tmp 18),(some (17,false))⟩,⟨(some 20),.bin .gtr (.node []) false (.tmp 19) (.const (.int .i64 66)),(some (17,false))⟩,pt 21 17 20]
 (cd 21
 (sr [⟨(some 6),.mov (.const (.bool false)),none⟩]
 (.ret))
 (.skip)))
 (.seq (sr [mc 7 0]
 (.block 0 (.loop A.lb8_0)))
 (sr [⟨(some 6),.mov (.const (.bool true)),none⟩]
 (.ret))))
theorem A.c8:Zal Tryz.prog 8=some ⟨35,[.tmp 6],A.b8⟩:=by kernel_rfl
def A.k8:=@A.kk 8 _ _ _ A.c8 rfl
def A.lb60_0:Zae:=.seq (sr [mv 11 5,mv 12 0,ln 13 12,bi 14 .lss 11 13]
 (cd 14
 (.skip)
 (.exit 0)))
 (.seq (.block 1 (.seq (.regD [mv 17 0,mv 18 5,ia 19 1 17 18,ld 20 19,mv 21 1,mv 22 5,ia 23 1 21 22,ld 24 23,⟨(some 25),.bin .neq (.prim .str) false (.tmp 20) (.tmp 24),none⟩] [0,0,3,7,0,0,48,112,255])
 (cd 25
 (sr [⟨(some 4),.mov (.const (.bool false)),none⟩]
 (.ret))
 (.skip))))
 (.reg [mv 15 5,bc 16 .add 15 1,mv 5 16]))
def A.b60:Zae:=sr [⟨(some 4),.mov (.const (.bool false)),none⟩]
 (.seq (sr [mv 6 0,ln 7 6,mv 8 1,ln 9 8,⟨(some 10),.bin .neq (.prim .int) false (.tmp 7) (.tmp 9),none⟩]
 (cd 10
 (sr [⟨(some 4),.mov (.const (.bool false)),none⟩]
 (.ret))
 (.skip)))
 (.seq (sr [mc 5 0]
 (.block 0 (.loop A.lb60_0)))
 (sr [⟨(some 4),.mov (.const (.bool true)),none⟩]
 (.ret))))
theorem A.c60:Zal Tryz.prog 60=some ⟨26,[.tmp 4],A.b60⟩:=by kernel_rfl
def A.k60:=@A.kk 60 _ _ _ A.c60 rfl
theorem Yh5{u:V}{l:List Str}(hu:Sl h N u (strs l))(hv:Sl h N v (strs l))(hl:l.length<100000):A.C.call (.func 60 [] []) [u,v] ⟨h,N,w⟩=some (.bool true,⟨h,N,w⟩):=by
 apply Call.eq
 have l1:=hu.len
 have l2:=hv.len
 rw[Zbn]at l1 l2
 rw[Zab,A.k60 (by simp)]
 simp[A.b60,l1,l2]
 refine Zaj [(4,5),(11,25)] (fun e r st=>st=⟨h,N,[]⟩∧e=.exit 0) (fun m r st=>st=⟨h,N,[]⟩∧∃k,k+m=l.length∧r.get 5=some (.int .i64 k)) l.length ?_ ?_ ?_
 ·exact⟨rfl,0,by omega,by simp⟩
 ·rintro m r _ hr hf ⟨rfl,k,hk,h5⟩
  rw[Zah]
  cases m with
  |zero=>
   obtain rfl:k=l.length:=by omega
   simp[A.lb60_0,hr,hf,h5,l1]
  |succ m=>
   have hlt:k<l.length:=by omega
   obtain⟨s,hs⟩:=Zag hlt
   obtain⟨i,o,c,e,rw,q1,q2,q3,q4⟩:=hu.at (Zf1 hs)
   obtain⟨i',o',c',e',rw',p1,p2,p3,p4⟩:=hv.at (Zf1 hs)
   have hk1:(k:Int)<(l.length:Int):=by omega
   simp(disch:=first|(simp;done)|omega|rfl) [A.lb60_0,hr,hf,h5,l1,l2,hk1,q1,q2,q3,q4,p1,p2,p3,p4,Zbs]
   exact⟨m,by omega,k+1,by omega,by simp⟩
 ·rintro _ r _ hr ⟨rfl,rfl⟩
  simp
def Znt(s:Str):Bool:=decide (s.length≤24)
def Zgq(k n:Nat):Bool:=decide (k≤n∨64<k∧k≤66)
def Za9(n:Nat)(l:List Str):Bool:=Zgq l.length n&&l.all Znt
theorem Zls{k:Nat}(h:Zgq k n=true)(hn:n<64):k≤66:=by
 simp[Zgq]at h
 omega
theorem Zme{l:List Str}(hs:Sl h N v (strs l))(hl:l.length<9223372036854775808)(hn:n<64):A.C.call (.func 9 [] []) [v,.int .i64 n] ⟨h,N,w⟩=some (.bool (Za9 n l),⟨h,N,w⟩):=by
 apply Call.eq
 have lg:=hs.len
 rw[Zbn]at lg
 rw[Zab,A.k9 (by simp)]
 have fin:Zgq l.length n=true→Za9 n l=l.all Znt:=fun h=>by simp[Za9,h]
 by_cases c1:l.length≤n
 ·rw[fin (by simp[Zgq,c1])]
  have a1:¬(n:Int)<(l.length:Int):=by omega
  have a2:¬66<(l.length:Int):=by omega
  simp[A.b9,lg,a1,a2]
  refine Zaj [(4,5),(20,31)] (fun e r st=>st=⟨h,N,[]⟩∧((e=.exit 0∧l.all Znt=true)∨(e=.ret∧l.all Znt=false∧r.get 4=some (.bool false)))) (fun m r st=>st=⟨h,N,[]⟩∧∃k,k+m=l.length∧r.get 5=some (.int .i64 k)∧l.all Znt=(l.drop k).all Znt) l.length ?_ ?_ ?_
  ·exact⟨rfl,0,by omega,by simp,by simp⟩
  ·rintro m r _ hr hf ⟨rfl,k,hk,hx,hz⟩
   rw[Zah]
   cases m with
   |zero=>
    obtain rfl:k=l.length:=by omega
    rw[List.drop_length,List.all_nil]at hz
    simp[A.lb9_0,hr,hf,hx,lg,hz]
   |succ m=>
    have hlt:k<l.length:=by omega
    have hk1:(k:Int)<(l.length:Int):=by omega
    obtain⟨s,hc⟩:=Zag hlt
    obtain⟨i,o,cc,e,rw,q1,q2,q3,q4⟩:=hs.at (Zf1 hc)
    rw[Zaq hc,List.all_cons]at hz
    by_cases c4:Znt s=true
    ·rw[c4,Bool.true_and]at hz
     have c6:¬24<(s.length:Int):=by simp[Znt]at c4;omega
     simp(disch:=first|(simp;done)|omega|rfl) [A.lb9_0,hr,hf,hx,lg,hk1,q1,q3,q4,c6]
     exact⟨m,by omega,k+1,by omega,by simp,hz⟩
    ·have c5:Znt s=false:=by simpa using c4
     rw[c5,Bool.false_and]at hz
     have c6:24<(s.length:Int):=by simp[Znt]at c5;omega
     simp[A.lb9_0,hr,hf,hx,lg,hk1,q1,q3,q4,c6,hz]
  ·rintro e r _ hr ⟨rfl,⟨rfl,hq⟩|⟨rfl,hq,h2⟩⟩
   ·simp[hq]
   ·simp[hq,h2]
 ·have a1:(n:Int)<(l.length:Int):=by omega
  have a1':n<l.length:=by omega
  by_cases c2:l.length≤64
  ·have a3:(l.length:Int)≤64:=by omega
   have e1:Za9 n l=false:=by simp[Za9,Zgq,c1];omega
   simp[A.b9,lg,a1,a3,e1]
  ·have a3:¬(l.length:Int)≤64:=by omega
   by_cases c3:66<l.length
   ·have a4:66<(l.length:Int):=by omega
    have e1:Za9 n l=false:=by simp[Za9,Zgq,c1];omega
    simp[A.b9,lg,a1,a3,a4,e1]
   ·have a4:¬66<(l.length:Int):=by omega
    rw[fin (by simp[Zgq];omega)]
    simp[A.b9,lg,a1,a3,a4]
    refine Zaj [(4,5),(20,31)] (fun e r st=>st=⟨h,N,[]⟩∧((e=.exit 0∧l.all Znt=true)∨(e=.ret∧l.all Znt=false∧r.get 4=some (.bool false)))) (fun m r st=>st=⟨h,N,[]⟩∧∃k,k+m=l.length∧r.get 5=some (.int .i64 k)∧l.all Znt=(l.drop k).all Znt) l.length ?_ ?_ ?_
    ·exact⟨rfl,0,by omega,by simp,by simp⟩
    ·rintro m r _ hr hf ⟨rfl,k,hk,hx,hz⟩
     rw[Zah]
     cases m with
     |zero=>
      obtain rfl:k=l.length:=by omega
      rw[List.drop_length,List.all_nil]at hz
      simp[A.lb9_0,hr,hf,hx,lg,hz]
     |succ m=>
      have hlt:k<l.length:=by omega
      have hk1:(k:Int)<(l.length:Int):=by omega
      obtain⟨s,hc⟩:=Zag hlt
      obtain⟨i,o,cc,e,rw,q1,q2,q3,q4⟩:=hs.at (Zf1 hc)
      rw[Zaq hc,List.all_cons]at hz
      by_cases c4:Znt s=true
      ·rw[c4,Bool.true_and]at hz
       have c6:¬24<(s.length:Int):=by simp[Znt]at c4;omega
       simp(disch:=first|(simp;done)|omega|rfl) [A.lb9_0,hr,hf,hx,lg,hk1,q1,q3,q4,c6]
       exact⟨m,by omega,k+1,by omega,by simp,hz⟩
      ·have c5:Znt s=false:=by simpa using c4
       rw[c5,Bool.false_and]at hz
       have c6:24<(s.length:Int):=by simp[Znt]at c5;omega
       simp[A.lb9_0,hr,hf,hx,lg,hk1,q1,q3,q4,c6,hz]
    ·rintro e r _ hr ⟨rfl,⟨rfl,hq⟩|⟨rfl,hq,h2⟩⟩
     ·simp[hq]
     ·simp[hq,h2]
def MtS(h:T O)(N:Nat)(v:V)(m:List (List Str)):Prop:=∃us:List V,Sl h N v us∧us.length=m.length∧∀(j:Nat) (l:List Str),m[j]?=some l→∃u,us[j]?=some u∧Sl h N u (strs l)
theorem MtS.keep{h':T O}{N':Nat}(s:MtS h N v m)(k:Keeps h N h' N'):MtS h' N' v m:=by
 obtain⟨us,h1,h2,h3⟩:=s
 refine⟨us,h1.keep k,h2,fun j l hl=>?_⟩
 obtain⟨u,g1,g2⟩:=h3 j l hl
 exact⟨u,g1,g2.keep k⟩
theorem MtS.len(s:MtS h N v m):Zmy v=some m.length:=by
 obtain⟨us,h1,h2,_⟩:=s
 rw[h1.len,h2]
theorem MtS.at(s:MtS h N v m){j:Nat}{l:List Str}(hj:m[j]?=some l):∃i o c e rw u,Znn v=some (i,o)∧i<N∧h.get i=some (.cells c e rw)∧c[o+j]?=some u∧Sl h N u (strs l):=by
 obtain⟨us,h1,h2,h3⟩:=s
 obtain⟨u,g1,g2⟩:=h3 j l hj
 obtain⟨i,o,c,e,rw,q1,q2,q3,q4⟩:=h1.at g1
 exact⟨i,o,c,e,rw,u,q1,q2,q3,q4,g2⟩
theorem MtS.txm{m:List (List Rat)}(s:MtS h N v (m.map fun l=>l.map Za3)):TxM h N v m:=by
 obtain⟨us,h1,h2,h3⟩:=s
 refine⟨us,h1,by simpa using h2,fun j l hl=>?_⟩
 exact h3 j (l.map Za3) (by simp[hl])
def Zcm(r c:Nat)(m:List (List Str)):Bool:=Zgq m.length r&&m.all (Za9 c)
theorem Ydr{l:List (List Str)}{p:Nat}(hs:MtS h N v l)(hl:l.length<9223372036854775808)(hx0:∀x∈l,x.length<9223372036854775808)(hn:n<64)(hp:p<64):A.C.call (.func 8 [] []) [v,.int .i64 n,.int .i64 p] ⟨h,N,w⟩=some (.bool (Zcm n p l),⟨h,N,w⟩):=by
 apply Call.eq
 have lg:=hs.len
 rw[Zab,A.k8 (by simp)]
 have fin:Zgq l.length n=true→Zcm n p l=l.all (Za9 p):=fun h=>by simp[Zcm,h]
 by_cases c1:l.length≤n
 ·rw[fin (by simp[Zgq,c1])]
  have a1:¬(n:Int)<(l.length:Int):=by omega
  have a2:¬66<(l.length:Int):=by omega
  simp[A.b8,lg,a1,a2]
  refine Zaj [(6,7),(22,34)] (fun e r st=>st=⟨h,N,[]⟩∧((e=.exit 0∧l.all (Za9 p)=true)∨(e=.ret∧l.all (Za9 p)=false∧r.get 6=some (.bool false)))) (fun m r st=>st=⟨h,N,[]⟩∧∃k,k+m=l.length∧r.get 7=some (.int .i64 k)∧l.all (Za9 p)=(l.drop k).all (Za9 p)) l.length ?_ ?_ ?_
  ·exact⟨rfl,0,by omega,by simp,by simp⟩
  ·rintro m r _ hr hf ⟨rfl,k,hk,hx,hz⟩
   rw[Zah]
   cases m with
   |zero=>
    obtain rfl:k=l.length:=by omega
    rw[List.drop_length,List.all_nil]at hz
    simp[A.lb8_0,hr,hf,hx,lg,hz]
   |succ m=>
    have hlt:k<l.length:=by omega
    have hk1:(k:Int)<(l.length:Int):=by omega
    obtain⟨s,hc⟩:=Zag hlt
    obtain⟨i,o,cc,e,rw,u,q1,q2,q3,q4,q5⟩:=hs.at hc
    have hsl:=fun w=>Zme (w:=w) q5 (hx0 s (List.mem_of_getElem? hc)) hp
    rw[Zaq hc,List.all_cons]at hz
    by_cases c4:(Za9 p) s=true
    ·rw[c4,Bool.true_and]at hz
     simp(disch:=first|(simp;done)|omega|rfl) [A.lb8_0,hr,hf,hx,lg,hk1,q1,q3,q4,hsl,c4]
     exact⟨m,by omega,k+1,by omega,by simp,hz⟩
    ·have c5:(Za9 p) s=false:=by simpa using c4
     rw[c5,Bool.false_and]at hz
     simp[A.lb8_0,hr,hf,hx,lg,hk1,q1,q3,q4,hsl,c5,hz]
  ·rintro e r _ hr ⟨rfl,⟨rfl,hq⟩|⟨rfl,hq,h2⟩⟩
   ·simp[hq]
   ·simp[hq,h2]
 ·have a1:(n:Int)<(l.length:Int):=by omega
  have a1':n<l.length:=by omega
  by_cases c2:l.length≤64
  ·have a3:(l.length:Int)≤64:=by omega
   have e1:Zcm n p l=false:=by simp[Zcm,Zgq,c1];omega
   simp[A.b8,lg,a1,a3,e1]
  ·have a3:¬(l.length:Int)≤64:=by omega
   by_cases c3:66<l.length
   ·have a4:66<(l.length:Int):=by omega
    have e1:Zcm n p l=false:=by simp[Zcm,Zgq,c1];omega
    simp[A.b8,lg,a1,a3,a4,e1]
   ·have a4:¬66<(l.length:Int):=by omega
    rw[fin (by simp[Zgq];omega)]
    simp[A.b8,lg,a1,a3,a4]
    refine Zaj [(6,7),(22,34)] (fun e r st=>st=⟨h,N,[]⟩∧((e=.exit 0∧l.all (Za9 p)=true)∨(e=.ret∧l.all (Za9 p)=false∧r.get 6=some (.bool false)))) (fun m r st=>st=⟨h,N,[]⟩∧∃k,k+m=l.length∧r.get 7=some (.int .i64 k)∧l.all (Za9 p)=(l.drop k).all (Za9 p)) l.length ?_ ?_ ?_
    ·exact⟨rfl,0,by omega,by simp,by simp⟩
    ·rintro m r _ hr hf ⟨rfl,k,hk,hx,hz⟩
     rw[Zah]
     cases m with
     |zero=>
      obtain rfl:k=l.length:=by omega
      rw[List.drop_length,List.all_nil]at hz
      simp[A.lb8_0,hr,hf,hx,lg,hz]
     |succ m=>
      have hlt:k<l.length:=by omega
      have hk1:(k:Int)<(l.length:Int):=by omega
      obtain⟨s,hc⟩:=Zag hlt
      obtain⟨i,o,cc,e,rw,u,q1,q2,q3,q4,q5⟩:=hs.at hc
      have hsl:=fun w=>Zme (w:=w) q5 (hx0 s (List.mem_of_getElem? hc)) hp
      rw[Zaq hc,List.all_cons]at hz
      by_cases c4:(Za9 p) s=true
      ·rw[c4,Bool.true_and]at hz
       simp(disch:=first|(simp;done)|omega|rfl) [A.lb8_0,hr,hf,hx,lg,hk1,q1,q3,q4,hsl,c4]
       exact⟨m,by omega,k+1,by omega,by simp,hz⟩
      ·have c5:(Za9 p) s=false:=by simpa using c4
       rw[c5,Bool.false_and]at hz
       simp[A.lb8_0,hr,hf,hx,lg,hk1,q1,q3,q4,hsl,c5,hz]
    ·rintro e r _ hr ⟨rfl,⟨rfl,hq⟩|⟨rfl,hq,h2⟩⟩
     ·simp[hq]
     ·simp[hq,h2]
end Go.Mx
