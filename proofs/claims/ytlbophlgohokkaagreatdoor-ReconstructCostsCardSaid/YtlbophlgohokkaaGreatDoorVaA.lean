/-
  lensletref05: Dot, Apply.
-/
import Derived.Test.YtlbophlgohokkaaGreatDoorNbA
import Derived.Test.YtlbophlgohokkaaGreatDoorNdC
set_option linter.all false
namespace Go.Mx
open Go Go.Proofs
variable {N j k:Nat} {b l:List Rat} {h:T O} {m:List (List Rat)} {v:V}
set_option maxRecDepth 1000000
def A.lb20_0:Zae:=.seq (sr [mv 7 6,mv 8 0,ln 9 8,bi 10 .lss 7 9]
 (cd 10
 (.skip)
 (.exit 0)))
 (.seq (.block 1 (.regD [mv 13 5,mv 14 0,mv 15 6,ia 16 1 14 15,ld 17 16,mv 18 1,mv 19 6,ia 20 1 18 19,ld 21 20,c2 22 96 17 21,c2 23 95 13 22,mv 5 23] [0,0,0,6,14,0,0,96,224,510,1023,2047]))
 (.reg [mv 11 6,bc 12 .add 11 1,mv 6 12]))
def A.b20:Zae:=sr [⟨(some 4),.mov (.const (.str [])),none⟩]
 (sr [⟨(some 5),.mov (.const (.str [48])),none⟩]
 (.seq (sr [mc 6 0]
 (.block 0 (.loop A.lb20_0)))
 (sr [mv 24 5,mv 4 24]
 (.ret))))
theorem A.c20:A.F 20=some ⟨25,[.tmp 4],A.b20⟩:=by kernel_rfl
def A.k20:=@A.kk 20 _ _ _ A.c20 rfl
def A.lb18_0:Zae:=.seq (sr [mv 7 6,mv 8 0,ln 9 8,bi 10 .lss 7 9]
 (cd 10
 (.skip)
 (.exit 0)))
 (.seq (.block 1 (.reg [mv 13 5,mv 14 0,mv 15 6,ia 16 1 14 15,ld 17 16,mv 18 1,c2 19 20 17 18,⟨(some 20),.bslice 36 1 1 [(.str [])] [(0,1,(.tmp 19))],none⟩,⟨(some 21),.append 1 16 36 [(.str [])] (.tmp 13) (.tmp 20),none⟩,mv 5 21]))
 (.reg [mv 11 6,bc 12 .add 11 1,mv 6 12]))
def A.b18:Zae:=sr [mN 4]
 (sr [mN 5]
 (.seq (sr [mc 6 0]
 (.block 0 (.loop A.lb18_0)))
 (sr [mv 22 5,mv 4 22]
 (.ret))))
theorem A.c18:A.F 18=some ⟨23,[.tmp 4],A.b18⟩:=by kernel_rfl
def A.k18:=@A.kk 18 _ _ _ A.c18 rfl
def Znd(a b:List Rat):Nat→Rat
 |0=>0
 |k+1=>Znd a b k+a[k]?.getD 0*b[k]?.getD 0
def Zny(a b:List Rat):Rat:=Znd a b a.length
theorem Qb.zero:Qb 1 0:=⟨by decide,by decide⟩
theorem Zkt{l:List Rat}{k:Nat}(h:∀q∈l,Qb k q)(hk:1≤k)(j:Nat):Qb k (l[j]?.getD 0):=by
 cases hj:l[j]? with
 |none=>exact Qb.zero.mono hk
 |some q=>exact h q (Yrv hj)
theorem Znc{a b:List Rat}{j k:Nat}(ha:∀q∈a,Qb j q)(hb:∀q∈b,Qb k q)(hj:1≤j)(hk:1≤k):∀n,Qb (n*(j+k+1)+1) (Znd a b n)
 |0=>by simpa[Znd]using Qb.zero
 |n+1=>by
  have h:=(Znc ha hb hj hk n).add ((Zkt ha hj n).mul (Zkt hb hk n))
  exact h.mono (by rw[Ysw];omega)
def Tx(h:T O)(N:Nat)(v:V)(l:List Rat):Prop:=Sl h N v (tx l)
theorem Tx.keep{h':T O}{N':Nat}(s:Tx h N v l)(k:Keeps h N h' N'):Tx h' N' v l:=Sl.keep s k
theorem Tx.len(s:Tx h N v l):Zlh v=some l.length:=by
 have:=Sl.len s
 rwa [Zh9]at this
theorem Yjg{u:V}{a:List Rat}(hu:Tx h N u a)(hv:Tx h N v b)(hab:a.length≤b.length)(ha:∀q∈a,Qb j q)(hb:∀q∈b,Qb k q)(hj:1≤j)(hk:1≤k)(hl:a.length*(j+k+1)+j+k+1≤400000):Fn A.C 20 [u,v] h N (fun x _ _=>x=.str (Za1 (Zny a b))):=by
 intro w
 have l1:=hu.len
 have l2:=hv.len
 have hal:a.length≤400000:=by have:=Nat.le_mul_of_pos_right a.length (show 0<j+k+1 by omega);omega
 rw[Zaa,A.k20 (by simp)]
 simp[A.b20]
 refine Zaj [(5,23)] (fun e r st=>e=.exit 0∧Zac N st.w=[]∧Keeps h N st.h st.n∧r.get 5=some (.str (Za1 (Zny a b)))) (fun m r st=>Zac N st.w=[]∧Keeps h N st.h st.n∧∃t,t+m=a.length∧r.get 6=some (.int .i64 t)∧r.get 5=some (.str (Za1 (Znd a b t)))) a.length ?_ ?_ ?_
 ·exact⟨by simp,Keeps.refl,0,by omega,by simp,by simp[Znd,Ydx]⟩
 ·rintro m r ⟨H,n1,W⟩ hr hf ⟨hW,hK,t,ht,h6,h5⟩
  simp only at hW hK
  rw[Zah]
  cases m with
  |zero=>
   obtain rfl:t=a.length:=by omega
   simp[A.lb20_0,hr,hf,h6,h5,l1,hW,hK]
   rfl
  |succ m=>
   have hlt:t<a.length:=by omega
   have hlt':(t:Int)<(a.length:Int):=by omega
   have hlb:t<b.length:=by omega
   have hlb':(t:Int)<(b.length:Int):=by omega
   obtain⟨p,hp⟩:=Zag hlt
   obtain⟨q,hq⟩:=Zag hlb
   have hpb:=ha p (Yrv hp)
   have hqb:=hb q (Yrv hq)
   have hsb:=Znc ha hb hj hk t
   have hmul:t*(j+k+1)≤a.length*(j+k+1):=Yr7 _ (by omega)
   have e1:Znd a b (t+1)=Znd a b t+p*q:=by simp[Znd,hp,hq]
   obtain⟨i,o,cc,e,rw,q1,q2,q3,q4⟩:=(Sl.keep hu hK).at (Zjd hp)
   obtain⟨i',o',cc',e',rw',p1,p2,p3,p4⟩:=(Sl.keep hv hK).at (Zjd hq)
   simp[A.lb20_0,hr,h6,h5,l1,l2,hlt',hlb',q1,q2,q3,q4,p1,p2,p3,p4]
   refine Zab (Zpt hpb hqb (by omega) (by omega)) ?_
   rintro _ H2 n2 k2 rfl
   simp[]
   refine Zab (Zus hsb (hpb.mul hqb) (by omega) (by omega)) ?_
   rintro _ H3 n3 k3 rfl
   rw[←e1]
   simp(disch:=first|(simp;done)|omega|rfl) [hf,h6,hW]
   exact⟨m,by omega,(hK.trans k2).trans k3,t+1,by omega,by simp,by simp⟩
 ·rintro _ r ⟨H,n1,W⟩ hr ⟨rfl,hW,hK,h5⟩
  simp only at hW hK
  simp[h5,Ret,hW,hK]
def TxM(h:T O)(N:Nat)(v:V)(m:List (List Rat)):Prop:=∃us:List V,Sl h N v us∧us.length=m.length∧∀(j:Nat) (l:List Rat),m[j]?=some l→∃u,us[j]?=some u∧Tx h N u l
theorem TxM.keep{h':T O}{N':Nat}(s:TxM h N v m)(k:Keeps h N h' N'):TxM h' N' v m:=by
 obtain⟨us,h1,h2,h3⟩:=s
 refine⟨us,h1.keep k,h2,fun j l hl=>?_⟩
 obtain⟨u,g1,g2⟩:=h3 j l hl
 exact⟨u,g1,g2.keep k⟩
theorem TxM.len(s:TxM h N v m):Zlh v=some m.length:=by
 obtain⟨us,h1,h2,_⟩:=s
 rw[h1.len,h2]
theorem TxM.at(s:TxM h N v m){j:Nat}{l:List Rat}(hj:m[j]?=some l):∃i o c e rw u,Znr v=some (i,o)∧i<N∧h.get i=some (.cells c e rw)∧c[o+j]?=some u∧Tx h N u l:=by
 obtain⟨us,h1,h2,h3⟩:=s
 obtain⟨u,g1,g2⟩:=h3 j l hj
 obtain⟨i,o,c,e,rw,q1,q2,q3,q4⟩:=h1.at g1
 exact⟨i,o,c,e,rw,u,q1,q2,q3,q4,g2⟩
theorem Yab{u:V}{n:Nat}(hu:TxM h N u m)(hv:Tx h N v b)(hm:∀r∈m,r.length=n∧∀q∈r,Qb j q)(hn:n≤b.length)(hb:∀q∈b,Qb k q)(hj:1≤j)(hk:1≤k)(hl:n*(j+k+1)+j+k+1≤400000)(hml:m.length<100000):Fn A.C 18 [u,v] h N (fun x h' n'=>Own 1 36 N h' n' x ((tx (m.map fun r=>Zny r b)).map fun y=>[y])):=by
 intro w
 have l1:=hu.len
 rw[Zaa,A.k18 (by simp)]
 simp[A.b18]
 refine Zaj [(5,21)] (fun e r st=>e=.exit 0∧Zac N st.w=[]∧Keeps h N st.h st.n∧∃x,r.get 5=some x∧Own 1 36 N st.h st.n x ((tx (m.map fun r=>Zny r b)).map fun y=>[y])) (fun i r st=>Zac N st.w=[]∧Keeps h N st.h st.n∧∃t x,t+i=m.length∧r.get 6=some (.int .i64 t)∧r.get 5=some x∧Own 1 36 N st.h st.n x ((tx ((m.take t).map fun r=>Zny r b)).map fun y=>[y])) m.length ?_ ?_ ?_
 ·exact⟨by simp,Keeps.refl,0,.nilslice,by omega,by simp,by simp,by simpa[tx,strs]using Own.nil⟩
 ·rintro i r ⟨H,n1,W⟩ hr hf ⟨hW,hK,t,x,ht,h6,h5,ho⟩
  simp only at hW hK ho
  rw[Zah]
  cases i with
  |zero=>
   obtain rfl:t=m.length:=by omega
   rw[Ytq]at ho
   simp[A.lb18_0,hr,hf,h6,h5,l1,hW,hK]
   exact ho
  |succ i=>
   have hlt:t<m.length:=by omega
   have hlt':(t:Int)<(m.length:Int):=by omega
   obtain⟨row,hrow⟩:=Zag hlt
   obtain⟨a1,a2⟩:=hm row (Yrv hrow)
   obtain⟨i',o,cc,e,rw,ru,q1,q2,q3,q4,q5⟩:=(hu.keep hK).at hrow
   simp[A.lb18_0,hr,h6,h5,l1,hlt',q1,q3,q4]
   refine Zab (Yjg q5 (hv.keep hK) (by omega) a2 hb hj hk (by rw[a1];exact hl)) ?_
   rintro _ H2 n2 k2 rfl
   have le2:=k2.le
   have nle:=hK.le
   have hl':(((tx ((m.take t).map fun r=>Zny r b)).map fun y=>[y])).length≤100000:=by simp[Zh9];omega
   obtain⟨v',h',w',f1,f2,f3,_,f5⟩:=Zbj (x:=[.str (Za1 (Zny row b))]) (u:=.slice n2 0 1 (some 1) 1) (bytes:=16) (w:=W) ((ho.keep k2).keep (Keeps.refl.new (.cells [.str (Za1 (Zny row b))] 36 true))) (by omega) (by decide) rfl (by simp[Za2,St.row,slc]) (by omega)
   have e7:((tx ((m.take t).map fun r=>Zny r b)).map fun y=>[y])++[[.str (Za1 (Zny row b))]]=(tx ((m.take (t+1)).map fun r=>Zny r b)).map fun y=>[y]:=by rw[Yt1,hrow];simp[tx,strs]
   rw[e7]at f5
   simp(disch:=first|(simp;done)|omega|rfl) [hf,h6,splice,f1]
   exact⟨i,by omega,by rw[f2];exact hW,((hK.trans k2).trans (Keeps.refl.new (.cells [.str (Za1 (Zny row b))] 36 true))).then f3,t+1,by omega,by simp,by rw[←List.map_take];exact f5⟩
 ·rintro _ r ⟨H,n1,W⟩ hr ⟨rfl,hW,hK,x,h5,ho⟩
  simp only at hW hK ho
  simp[h5,Ret,hW,hK]
  exact ho
variable {N:Nat} {h h':T O} {l:List Rat} {m:List (List Rat)} {u v:V} {w:List Nat}
set_option maxHeartbeats 1000000
def TxT(h:T O)(N:Nat)(u:V)(l:List Rat):Prop:=Tx h N u l∧∀i∈Zeg u,∃z w,h.get i=some (.cells z 36 w)
theorem Zz4{l:List V}(s:Sl h N v l):∀i∈Zeg v,i<N:=fun i hi=>by
 rcases s with⟨_,rfl|rfl⟩|⟨j,o,cp,c,e,rw,rfl,hj,_⟩
 ·simp[Zeg]at hi
 ·simp[Zeg]at hi
 ·simp[Zeg]at hi;omega
theorem TxT.keep{N':Nat}(s:TxT h N u l)(k:Keeps h N h' N'):TxT h' N' u l:=⟨s.1.keep k,fun i hi=>by rw[k.get i (Zz4 s.1 i hi)];exact s.2 i hi⟩
theorem TxT.moved{n n':Nat}{Y:V→Prop}{e:TypeId}(s:TxT h n u l)(k:Upd (fun i=>i∈Zeg v) h n h' n')(hd:Zy4 e Y h v)(he:e≠36):TxT h' n' u l:=by
 have hn:∀i∈Zeg u,i∉Zeg v:=fun i hi hc=>by
  obtain⟨z,w,hz⟩:=s.2 i hi
  obtain⟨z2,hz2,_⟩:=hd i hc
  rw[hz]at hz2
  simp at hz2
  exact he hz2.2.1.symm
 exact⟨Sl.moved s.1 k hn,fun i hi=>by rw[k.get i (Zz4 s.1 i hi) (hn i hi)];exact s.2 i hi⟩
theorem Yah{N0:Nat}(s:Own 1 36 N0 h N v ((tx l).map fun y=>[y])):TxT h N v l:=by
 refine⟨Sn.one.1 s.sn,fun i hi=>?_⟩
 obtain⟨_,⟨_,rfl⟩|⟨j,rfl,_,_,hg⟩⟩:=s
 ·simp[Zeg]at hi
 ·simp[Zeg]at hi;subst hi;exact⟨_,_,hg⟩
def MtO(N0:Nat)(h:T O)(N:Nat)(v:V)(m:List (List Rat)):Prop:=∃us:List V,Own 1 23 N0 h N v (us.map fun y=>[y])∧(us=[]→v=.nilslice)∧us.length=m.length∧∀(j:Nat) (l:List Rat),m[j]?=some l→∃u,us[j]?=some u∧TxT h N u l
theorem MtO.nil{N0:Nat}:MtO N0 h N .nilslice []:=⟨[],Own.nil,fun _=>rfl,rfl,fun j l hl=>by simp at hl⟩
theorem MtO.keep{N0:Nat}{N':Nat}(s:MtO N0 h N v m)(k:Keeps h N h' N'):MtO N0 h' N' v m:=by
 obtain⟨us,h1,h2,h3,h4⟩:=s
 refine⟨us,h1.keep k,h2,h3,fun j l hl=>?_⟩
 obtain⟨u,g1,g2⟩:=h4 j l hl
 exact⟨u,g1,g2.keep k⟩
theorem MtO.txm{N0:Nat}(s:MtO N0 h N v m):TxM h N v m:=by
 obtain⟨us,h1,h2,h3,h4⟩:=s
 refine⟨us,Sn.one.1 h1.sn,h3,fun j l hl=>?_⟩
 obtain⟨u,g1,g2⟩:=h4 j l hl
 exact⟨u,g1,g2.1⟩
theorem MtO.push{N0:Nat}{x:V}(s:MtO N0 h N v m)(hu:TxT h N u l)(hN:N0≤N)(hx:Za2 ⟨h,N,w⟩ 1 x=some (1,[u]))(hm:m.length<100000):
  ∃v' h' w',Zb2 ⟨h,N,w⟩ 1 24 23 v x=some (v',⟨h',N+1,w'⟩)∧Zac N0 w'=Zac N0 w∧Keeps h N0 h' (N+1)∧MtO N0 h' (N+1) v' (m++[l]):=by
 obtain⟨us,h1,h2,h3,h4⟩:=s
 obtain⟨v',h',w',f1,f2,f3,f4,fD,f5⟩:=Zgm (Y:=fun _=>True) (x:=[u]) (u:=x) (bytes:=24) (w:=w) h1 (fun h0=>h2 (List.map_eq_nil_iff.1 h0)) (fun _ _ _ _=>trivial) hN (by decide) rfl hx (by rw[Yt9];omega)
 refine⟨v',h',w',f1,f2,f3,us++[u],by simpa using f5,by simp,by simp[h3],fun j r hr=>?_⟩
 by_cases hj:j<m.length
 ·rw[Ysc hj]at hr
  obtain⟨u',g1,g2⟩:=h4 j r hr
  exact⟨u',by rw[Ysc (by omega)];exact g1,g2.moved f4 fD (by simp)⟩
 ·rw[Ysm (by omega)]at hr
  cases hd:j-m.length with
  |zero=>
   rw[hd]at hr
   simp at hr
   subst hr
   exact⟨u,by rw[Ysm (by omega),h3,hd];rfl,hu.moved f4 fD (by simp)⟩
  |succ d=>rw[hd]at hr;simp at hr
theorem Zvf{N i:Nat}:∀{w:List Nat},i∈w→i<N→i∈Zac N w
 |[],h,_=>by simp at h
 |j::w,h,hi=>by
  simp only[Zac]
  rcases Yss.1 h with rfl|h
  ·rw[Yru hi]
   unfold Zfm
   split
   ·rename_i hc;simpa using hc
   ·exact Ysj
  ·have:=Zvf h hi
   split
   ·unfold Zfm
    split
    ·exact this
    ·exact Ysh _ this
   ·exact this
theorem Ye3{n1:Nat}{w':List Nat}(h:Zac n1 w'=Zac n1 w)(hN:N≤n1)(hw:Zac N w=[]):Zac N w'=[]:=by
 apply List.eq_nil_iff_forall_not_mem.2
 intro i hi
 obtain⟨h1,h2⟩:=Zks hi
 have h3:=Zvf h1 (show i<n1 by omega)
 rw[h]at h3
 have h4:=Zvf (Zks h3).1 h2
 rw[hw]at h4
 simp at h4
theorem Yao(h:Zac N w=[]):∀i∈w,N≤i:=fun i hi=>by
 apply Yto
 intro hc
 have:=Zvf hi hc
 rw[h]at this
 simp at this
theorem Yjs{n:Nat}{a b:List Nat}(ha:Zac N a=[])(hb:Zac N b=[]):Zac N (Zac n a++b)=[]:=Zpq fun i hi=>by
 rcases Ys1.1 hi with hi|hi
 ·exact Yao ha i (Zks hi).1
 ·exact Yao hb i hi
def wtN(r w:List Rat)(n:Nat):List Rat:=(List.range n).map fun k=>r[k]?.getD 0*w[k]?.getD 0
variable {N n:Nat} {h:T O} {m:List (List Str)} {v:V} {w:List Nat}
def A.lb9_0:Zae:=.seq (sr [mv 20 5,mv 21 0,ln 22 21,bi 23 .lss 20 22]
 (cd 23
 (.skip)
 (.exit 0)))
 (.seq (.block 1 (sr [mv 26 0,mv 27 5,ia 28 1 26 27,ld 29 28,⟨(some 30),.len 0 (.tmp 29),none⟩,bc 31 .gtr 30 24]
 (cd 31
 (sr [⟨(some 4),.mov (.const (.bool false)),none⟩]
 (.ret))
 (.skip))))
 (.reg [mv 24 5,bc 25 .add 24 1,mv 5 25]))
def A.b9:Zae:=sr [⟨(some 4),.mov (.const (.bool false)),none⟩]
 (.seq (sr [mv 6 0,ln 7 6,mv 8 1,bi 9 .gtr 7 8,mv 10 9,mg 11 0 10,⟨(some 12),.len 1 (.tmp 11),(some (10,true))⟩,⟨(some 13),.bin .leq (.node []) false (.tmp 12) (.const (.int .i64 64)),(some (10,true))⟩,pf 14 10 13,mv 15 14,mh 16 0 15,⟨(some 17),.len 1 (.tmp 16),(some (15,false))⟩,⟨(some 18),.bin .gtr (.node []) false (.tmp 17) (.const (.int .i64 66)),(some (15,false))⟩,pt 19 15 18]
 (cd 19
 (sr [⟨(some 4),.mov (.const (.bool false)),none⟩]
 (.ret))
 (.skip)))
 (.seq (sr [mc 5 0]
 (.block 0 (.loop A.lb9_0)))
 (sr [⟨(some 4),.mov (.const (.bool true)),none⟩]
 (.ret))))
theorem A.c9:A.F 9=some ⟨32,[.tmp 4],A.b9⟩:=by kernel_rfl
def A.k9:=@A.kk 9 _ _ _ A.c9 rfl
def A.lb8_0:Zae:=.seq (sr [mv 22 7,mv 23 0,ln 24 23,bi 25 .lss 22 24]
 (cd 25
 (.skip)
 (.exit 0)))
 (.seq (.block 1 (sr [mv 28 0,mv 29 7,ia 30 1 28 29,ld 31 30,mv 32 2,c2 33 9 31 32,⟨(some 34),.un .not (.tmp 33),none⟩]
 (cd 34
 (sr [⟨(some 6),.mov (.const (.bool false)),none⟩]
 (.ret))
 (.skip))))
 (.reg [mv 26 7,bc 27 .add 26 1,mv 7 27]))
def A.b8:Zae:=sr [⟨(some 6),.mov (.const (.bool false)),none⟩]
 (.seq (sr [mv 8 0,ln 9 8,mv 10 1,bi 11 .gtr 9 10,mv 12 11,mg 13 0 12,⟨(some 14),.len 1 (.tmp 13),(some (12,true))⟩,⟨(some 15),.bin .leq (.node []) false (.tmp 14) (.const (.int .i64 64)),(some (12,true))⟩,pf 16 12 15,mv 17 16,mh 18 0 17,⟨(some 19),.len 1 (.tmp 18),(some (17,false))⟩,⟨(some 20),.bin .gtr (.node []) false (.tmp 19) (.const (.int .i64 66)),(some (17,false))⟩,pt 21 17 20]
 (cd 21
 (sr [⟨(some 6),.mov (.const (.bool false)),none⟩]
 (.ret))
 (.skip)))
 (.seq (sr [mc 7 0]
 (.block 0 (.loop A.lb8_0)))
 (sr [⟨(some 6),.mov (.const (.bool true)),none⟩]
 (.ret))))
theorem A.c8:A.F 8=some ⟨35,[.tmp 6],A.b8⟩:=by kernel_rfl
def A.k8:=@A.kk 8 _ _ _ A.c8 rfl
def A.lb60_0:Zae:=.seq (sr [mv 11 5,mv 12 0,ln 13 12,bi 14 .lss 11 13]
 (cd 14
 (.skip)
 (.exit 0)))
 (.seq (.block 1 (.seq (.regD [mv 17 0,mv 18 5,ia 19 1 17 18,ld 20 19,mv 21 1,mv 22 5,ia 23 1 21 22,ld 24 23,⟨(some 25),.bin .neq (.prim .str) false (.tmp 20) (.tmp 24),none⟩] [0,0,3,7,0,0,48,112,255])
 (cd 25
 (sr [⟨(some 4),.mov (.const (.bool false)),none⟩]
 (.ret))
 (.skip))))
 (.reg [mv 15 5,bc 16 .add 15 1,mv 5 16]))
def A.b60:Zae:=sr [⟨(some 4),.mov (.const (.bool false)),none⟩]
 (.seq (sr [mv 6 0,ln 7 6,mv 8 1,ln 9 8,⟨(some 10),.bin .neq (.prim .int) false (.tmp 7) (.tmp 9),none⟩]
 (cd 10
 (sr [⟨(some 4),.mov (.const (.bool false)),none⟩]
 (.ret))
 (.skip)))
 (.seq (sr [mc 5 0]
 (.block 0 (.loop A.lb60_0)))
 (sr [⟨(some 4),.mov (.const (.bool true)),none⟩]
 (.ret))))
theorem A.c60:A.F 60=some ⟨26,[.tmp 4],A.b60⟩:=by kernel_rfl
def A.k60:=@A.kk 60 _ _ _ A.c60 rfl
theorem Zzp{u:V}{l:List Str}(hu:Sl h N u (strs l))(hv:Sl h N v (strs l))(hl:l.length<100000):A.C.call (.func 60 [] []) [u,v] ⟨h,N,w⟩=some (.bool true,⟨h,N,w⟩):=by
 apply Call.eq
 have l1:=hu.len
 have l2:=hv.len
 rw[Zb3]at l1 l2
 rw[Zaa,A.k60 (by simp)]
 simp[A.b60,l1,l2]
 refine Zaj [(4,5),(11,25)] (fun e r st=>st=⟨h,N,[]⟩∧e=.exit 0) (fun m r st=>st=⟨h,N,[]⟩∧∃k,k+m=l.length∧r.get 5=some (.int .i64 k)) l.length ?_ ?_ ?_
 ·exact⟨rfl,0,by omega,by simp⟩
 ·rintro m r _ hr hf ⟨rfl,k,hk,h5⟩
  rw[Zah]
  cases m with
  |zero=>
   obtain rfl:k=l.length:=by omega
   simp[A.lb60_0,hr,hf,h5,l1]
  |succ m=>
   have hlt:k<l.length:=by omega
   obtain⟨s,hs⟩:=Zag hlt
   obtain⟨i,o,c,e,rw,q1,q2,q3,q4⟩:=hu.at (Zf2 hs)
   obtain⟨i',o',c',e',rw',p1,p2,p3,p4⟩:=hv.at (Zf2 hs)
   have hk1:(k:Int)<(l.length:Int):=by omega
   simp(disch:=first|(simp;done)|omega|rfl) [A.lb60_0,hr,hf,h5,l1,l2,hk1,q1,q2,q3,q4,p1,p2,p3,p4,Zbr]
   exact⟨m,by omega,k+1,by omega,by simp⟩
 ·rintro _ r _ hr ⟨rfl,rfl⟩
  simp
def Znx(s:Str):Bool:=decide (s.length≤24)
def Zgr(k n:Nat):Bool:=decide (k≤n∨64<k∧k≤66)
def Zay(n:Nat)(l:List Str):Bool:=Zgr l.length n&&l.all Znx
theorem Zvq{k:Nat}(h:Zgr k n=true)(hn:n<64):k≤66:=by
 simp[Zgr]at h
 omega
theorem Zgy{l:List Str}(hs:Sl h N v (strs l))(hl:l.length<9223372036854775808)(hn:n<64):A.C.call (.func 9 [] []) [v,.int .i64 n] ⟨h,N,w⟩=some (.bool (Zay n l),⟨h,N,w⟩):=by
 apply Call.eq
 have lg:=hs.len
 rw[Zb3]at lg
 rw[Zaa,A.k9 (by simp)]
 have fin:Zgr l.length n=true→Zay n l=l.all Znx:=fun h=>by simp[Zay,h]
 by_cases c1:l.length≤n
 ·rw[fin (by simp[Zgr,c1])]
  have a1:¬(n:Int)<(l.length:Int):=by omega
  have a2:¬66<(l.length:Int):=by omega
  simp[A.b9,lg,a1,a2]
  refine Zaj [(4,5),(20,31)] (fun e r st=>st=⟨h,N,[]⟩∧((e=.exit 0∧l.all Znx=true)∨(e=.ret∧l.all Znx=false∧r.get 4=some (.bool false)))) (fun m r st=>st=⟨h,N,[]⟩∧∃k,k+m=l.length∧r.get 5=some (.int .i64 k)∧l.all Znx=(l.drop k).all Znx) l.length ?_ ?_ ?_
  ·exact⟨rfl,0,by omega,by simp,by simp⟩
  ·rintro m r _ hr hf ⟨rfl,k,hk,hx,hz⟩
   rw[Zah]
   cases m with
   |zero=>
    obtain rfl:k=l.length:=by omega
    rw[Ysq,List.all_nil]at hz
    simp[A.lb9_0,hr,hf,hx,lg,hz]
   |succ m=>
    have hlt:k<l.length:=by omega
    have hk1:(k:Int)<(l.length:Int):=by omega
    obtain⟨s,hc⟩:=Zag hlt
    obtain⟨i,o,cc,e,rw,q1,q2,q3,q4⟩:=hs.at (Zf2 hc)
    rw[Zao hc,List.all_cons]at hz
    by_cases c4:Znx s=true
    ·rw[c4,Bool.true_and]at hz
     have c6:¬24<(s.length:Int):=by simp[Znx]at c4;omega
     simp(disch:=first|(simp;done)|omega|rfl) [A.lb9_0,hr,hf,hx,lg,hk1,q1,q3,q4,c6]
     exact⟨m,by omega,k+1,by omega,by simp,hz⟩
    ·have c5:Znx s=false:=by simpa using c4
     rw[c5,Yu7]at hz
     have c6:24<(s.length:Int):=by simp[Znx]at c5;omega
     simp[A.lb9_0,hr,hf,hx,lg,hk1,q1,q3,q4,c6,hz]
  ·rintro e r _ hr ⟨rfl,⟨rfl,hq⟩|⟨rfl,hq,h2⟩⟩
   ·simp[hq]
   ·simp[hq,h2]
 ·have a1:(n:Int)<(l.length:Int):=by omega
  have a1':n<l.length:=by omega
  by_cases c2:l.length≤64
  ·have a3:(l.length:Int)≤64:=by omega
   have e1:Zay n l=false:=by simp[Zay,Zgr,c1];omega
   simp[A.b9,lg,a1,a3,e1]
  ·have a3:¬(l.length:Int)≤64:=by omega
   by_cases c3:66<l.length
   ·have a4:66<(l.length:Int):=by omega
    have e1:Zay n l=false:=by simp[Zay,Zgr,c1];omega
    simp[A.b9,lg,a1,a3,a4,e1]
   ·have a4:¬66<(l.length:Int):=by omega
    rw[fin (by simp[Zgr];omega)]
    simp[A.b9,lg,a1,a3,a4]
    refine Zaj [(4,5),(20,31)] (fun e r st=>st=⟨h,N,[]⟩∧((e=.exit 0∧l.all Znx=true)∨(e=.ret∧l.all Znx=false∧r.get 4=some (.bool false)))) (fun m r st=>st=⟨h,N,[]⟩∧∃k,k+m=l.length∧r.get 5=some (.int .i64 k)∧l.all Znx=(l.drop k).all Znx) l.length ?_ ?_ ?_
    ·exact⟨rfl,0,by omega,by simp,by simp⟩
    ·rintro m r _ hr hf ⟨rfl,k,hk,hx,hz⟩
     rw[Zah]
     cases m with
     |zero=>
      obtain rfl:k=l.length:=by omega
      rw[Ysq,List.all_nil]at hz
      simp[A.lb9_0,hr,hf,hx,lg,hz]
     |succ m=>
      have hlt:k<l.length:=by omega
      have hk1:(k:Int)<(l.length:Int):=by omega
      obtain⟨s,hc⟩:=Zag hlt
      obtain⟨i,o,cc,e,rw,q1,q2,q3,q4⟩:=hs.at (Zf2 hc)
      rw[Zao hc,List.all_cons]at hz
      by_cases c4:Znx s=true
      ·rw[c4,Bool.true_and]at hz
       have c6:¬24<(s.length:Int):=by simp[Znx]at c4;omega
       simp(disch:=first|(simp;done)|omega|rfl) [A.lb9_0,hr,hf,hx,lg,hk1,q1,q3,q4,c6]
       exact⟨m,by omega,k+1,by omega,by simp,hz⟩
      ·have c5:Znx s=false:=by simpa using c4
       rw[c5,Yu7]at hz
       have c6:24<(s.length:Int):=by simp[Znx]at c5;omega
       simp[A.lb9_0,hr,hf,hx,lg,hk1,q1,q3,q4,c6,hz]
    ·rintro e r _ hr ⟨rfl,⟨rfl,hq⟩|⟨rfl,hq,h2⟩⟩
     ·simp[hq]
     ·simp[hq,h2]
def MtS(h:T O)(N:Nat)(v:V)(m:List (List Str)):Prop:=∃us:List V,Sl h N v us∧us.length=m.length∧∀(j:Nat) (l:List Str),m[j]?=some l→∃u,us[j]?=some u∧Sl h N u (strs l)
theorem MtS.keep{h':T O}{N':Nat}(s:MtS h N v m)(k:Keeps h N h' N'):MtS h' N' v m:=by
 obtain⟨us,h1,h2,h3⟩:=s
 refine⟨us,h1.keep k,h2,fun j l hl=>?_⟩
 obtain⟨u,g1,g2⟩:=h3 j l hl
 exact⟨u,g1,g2.keep k⟩
theorem MtS.len(s:MtS h N v m):Zlh v=some m.length:=by
 obtain⟨us,h1,h2,_⟩:=s
 rw[h1.len,h2]
theorem MtS.at(s:MtS h N v m){j:Nat}{l:List Str}(hj:m[j]?=some l):∃i o c e rw u,Znr v=some (i,o)∧i<N∧h.get i=some (.cells c e rw)∧c[o+j]?=some u∧Sl h N u (strs l):=by
 obtain⟨us,h1,h2,h3⟩:=s
 obtain⟨u,g1,g2⟩:=h3 j l hj
 obtain⟨i,o,c,e,rw,q1,q2,q3,q4⟩:=h1.at g1
 exact⟨i,o,c,e,rw,u,q1,q2,q3,q4,g2⟩
theorem MtS.txm{m:List (List Rat)}(s:MtS h N v (m.map fun l=>l.map Za1)):TxM h N v m:=by
 obtain⟨us,h1,h2,h3⟩:=s
 refine⟨us,h1,by simpa using h2,fun j l hl=>?_⟩
 exact h3 j (l.map Za1) (by simp[hl])
def Zco(r c:Nat)(m:List (List Str)):Bool:=Zgr m.length r&&m.all (Zay c)
theorem Yeb{l:List (List Str)}{p:Nat}(hs:MtS h N v l)(hl:l.length<9223372036854775808)(hx0:∀x∈l,x.length<9223372036854775808)(hn:n<64)(hp:p<64):A.C.call (.func 8 [] []) [v,.int .i64 n,.int .i64 p] ⟨h,N,w⟩=some (.bool (Zco n p l),⟨h,N,w⟩):=by
 apply Call.eq
 have lg:=hs.len
 rw[Zaa,A.k8 (by simp)]
 have fin:Zgr l.length n=true→Zco n p l=l.all (Zay p):=fun h=>by simp[Zco,h]
 by_cases c1:l.length≤n
 ·rw[fin (by simp[Zgr,c1])]
  have a1:¬(n:Int)<(l.length:Int):=by omega
  have a2:¬66<(l.length:Int):=by omega
  simp[A.b8,lg,a1,a2]
  refine Zaj [(6,7),(22,34)] (fun e r st=>st=⟨h,N,[]⟩∧((e=.exit 0∧l.all (Zay p)=true)∨(e=.ret∧l.all (Zay p)=false∧r.get 6=some (.bool false)))) (fun m r st=>st=⟨h,N,[]⟩∧∃k,k+m=l.length∧r.get 7=some (.int .i64 k)∧l.all (Zay p)=(l.drop k).all (Zay p)) l.length ?_ ?_ ?_
  ·exact⟨rfl,0,by omega,by simp,by simp⟩
  ·rintro m r _ hr hf ⟨rfl,k,hk,hx,hz⟩
   rw[Zah]
   cases m with
   |zero=>
    obtain rfl:k=l.length:=by omega
    rw[Ysq,List.all_nil]at hz
    simp[A.lb8_0,hr,hf,hx,lg,hz]
   |succ m=>
    have hlt:k<l.length:=by omega
    have hk1:(k:Int)<(l.length:Int):=by omega
    obtain⟨s,hc⟩:=Zag hlt
    obtain⟨i,o,cc,e,rw,u,q1,q2,q3,q4,q5⟩:=hs.at hc
    have hsl:=fun w=>Zgy (w:=w) q5 (hx0 s (Yrv hc)) hp
    rw[Zao hc,List.all_cons]at hz
    by_cases c4:(Zay p) s=true
    ·rw[c4,Bool.true_and]at hz
     simp(disch:=first|(simp;done)|omega|rfl) [A.lb8_0,hr,hf,hx,lg,hk1,q1,q3,q4,hsl,c4]
     exact⟨m,by omega,k+1,by omega,by simp,hz⟩
    ·have c5:(Zay p) s=false:=by simpa using c4
     rw[c5,Yu7]at hz
     simp[A.lb8_0,hr,hf,hx,lg,hk1,q1,q3,q4,hsl,c5,hz]
  ·rintro e r _ hr ⟨rfl,⟨rfl,hq⟩|⟨rfl,hq,h2⟩⟩
   ·simp[hq]
   ·simp[hq,h2]
 ·have a1:(n:Int)<(l.length:Int):=by omega
  have a1':n<l.length:=by omega
  by_cases c2:l.length≤64
  ·have a3:(l.length:Int)≤64:=by omega
   have e1:Zco n p l=false:=by simp[Zco,Zgr,c1];omega
   simp[A.b8,lg,a1,a3,e1]
  ·have a3:¬(l.length:Int)≤64:=by omega
   by_cases c3:66<l.length
   ·have a4:66<(l.length:Int):=by omega
    have e1:Zco n p l=false:=by simp[Zco,Zgr,c1];omega
    simp[A.b8,lg,a1,a3,a4,e1]
   ·have a4:¬66<(l.length:Int):=by omega
    rw[fin (by simp[Zgr];omega)]
    simp[A.b8,lg,a1,a3,a4]
    refine Zaj [(6,7),(22,34)] (fun e r st=>st=⟨h,N,[]⟩∧((e=.exit 0∧l.all (Zay p)=true)∨(e=.ret∧l.all (Zay p)=false∧r.get 6=some (.bool false)))) (fun m r st=>st=⟨h,N,[]⟩∧∃k,k+m=l.length∧r.get 7=some (.int .i64 k)∧l.all (Zay p)=(l.drop k).all (Zay p)) l.length ?_ ?_ ?_
    ·exact⟨rfl,0,by omega,by simp,by simp⟩
    ·rintro m r _ hr hf ⟨rfl,k,hk,hx,hz⟩
     rw[Zah]
     cases m with
     |zero=>
      obtain rfl:k=l.length:=by omega
      rw[Ysq,List.all_nil]at hz
      simp[A.lb8_0,hr,hf,hx,lg,hz]
     |succ m=>
      have hlt:k<l.length:=by omega
      have hk1:(k:Int)<(l.length:Int):=by omega
      obtain⟨s,hc⟩:=Zag hlt
      obtain⟨i,o,cc,e,rw,u,q1,q2,q3,q4,q5⟩:=hs.at hc
      have hsl:=fun w=>Zgy (w:=w) q5 (hx0 s (Yrv hc)) hp
      rw[Zao hc,List.all_cons]at hz
      by_cases c4:(Zay p) s=true
      ·rw[c4,Bool.true_and]at hz
       simp(disch:=first|(simp;done)|omega|rfl) [A.lb8_0,hr,hf,hx,lg,hk1,q1,q3,q4,hsl,c4]
       exact⟨m,by omega,k+1,by omega,by simp,hz⟩
      ·have c5:(Zay p) s=false:=by simpa using c4
       rw[c5,Yu7]at hz
       simp[A.lb8_0,hr,hf,hx,lg,hk1,q1,q3,q4,hsl,c5,hz]
    ·rintro e r _ hr ⟨rfl,⟨rfl,hq⟩|⟨rfl,hq,h2⟩⟩
     ·simp[hq]
     ·simp[hq,h2]
variable {N:Nat} {h:T O} {v:V}
def A.lb92_0:Zae:=.seq (sr [mv 5 3,mv 6 0,ln 7 6,bi 8 .lss 5 7]
 (cd 8
 (.skip)
 (.exit 0)))
 (.seq (.block 1 (sr [mv 11 0,mv 12 3,ia 13 1 11 12,ld 14 13,c1 15 93 14,mv 4 15]
 (sr [mv 16 4,ni 17 16 0]
 (cd 17
 (sr [mv 18 4,mv 2 18]
 (.ret))
 (.skip)))))
 (.reg [mv 9 3,bc 10 .add 9 1,mv 3 10]))
def A.b92:Zae:=sr [mc 2 0]
 (.seq (sr [mc 3 0]
 (.block 0 (.loop A.lb92_0)))
 (sr [mc 2 0]
 (.ret)))
theorem A.c92:A.F 92=some ⟨19,[.tmp 2],A.b92⟩:=by kernel_rfl
def A.k92:=@A.kk 92 _ _ _ A.c92 rfl
def A.b16:Zae:=sr [mc 4 0]
 (.seq (sr [mv 5 0,ln 6 5,mv 7 1,⟨(some 8),.bin .neq (.prim .int) false (.tmp 6) (.tmp 7),none⟩]
 (cd 8
 (sr [mc 4 2]
 (.ret))
 (.skip)))
 (sr [mv 9 0,c1 10 92 9,mv 4 10]
 (.ret)))
theorem A.c16:A.F 16=some ⟨11,[.tmp 4],A.b16⟩:=by kernel_rfl
def A.k16:=@A.kk 16 _ _ _ A.c16 rfl
def A.lb14_0:Zae:=.seq (sr [mv 31 7,mv 32 0,ln 33 32,bi 34 .lss 31 33]
 (cd 34
 (.skip)
 (.exit 0)))
 (.seq (.block 1 (.seq (.regD [mv 37 0,mv 38 7,ia 39 1 37 38,ld 40 39,mv 41 0,⟨(some 42),.iaddrSl 1 (.tmp 41) (.const (.int .i64 0)),none⟩,ld 43 42,ln 44 43,c2 45 16 40 44,mv 8 45] [0,0,3,7,0,16,48,112,255,511])
 (sr [mv 46 8,ni 47 46 0]
 (cd 47
 (sr [mv 48 8,mv 6 48]
 (.ret))
 (.skip)))))
 (.reg [mv 35 7,bc 36 .add 35 1,mv 7 36]))
def A.b14:Zae:=sr [mc 6 0]
 (.seq (sr [mv 9 0,ln 10 9,ei 11 10 0,mv 12 11,mh 13 0 12,⟨(some 14),.iaddrSl 1 (.tmp 13) (.const (.int .i64 0)),(some (12,false))⟩,⟨(some 15),.load none (.tmp 14),(some (12,false))⟩,⟨(some 16),.len 1 (.tmp 15),(some (12,false))⟩,⟨(some 17),.bin .eql (.prim .int) true (.tmp 16) (.const (.int .i64 0)),(some (12,false))⟩,pt 18 12 17]
 (cd 18
 (sr [mc 6 12]
 (.ret))
 (.skip)))
 (.seq (sr [mv 19 0,ln 20 19,mv 21 1,bi 22 .gtr 20 21,mv 23 22,mh 24 0 23,⟨(some 25),.iaddrSl 1 (.tmp 24) (.const (.int .i64 0)),(some (23,false))⟩,⟨(some 26),.load none (.tmp 25),(some (23,false))⟩,⟨(some 27),.len 1 (.tmp 26),(some (23,false))⟩,mh 28 2 23,⟨(some 29),.bin .gtr (.node []) false (.tmp 27) (.tmp 28),(some (23,false))⟩,pt 30 23 29]
 (cd 30
 (sr [mc 6 5]
 (.ret))
 (.skip)))
 (.seq (sr [mc 7 0]
 (.block 0 (.loop A.lb14_0)))
 (sr [mc 6 0]
 (.ret)))))
theorem A.c14:A.F 14=some ⟨49,[.tmp 6],A.b14⟩:=by kernel_rfl
def A.k14:=@A.kk 14 _ _ _ A.c14 rfl
def A.b15:Zae:=sr [mc 2 0]
 (.seq (sr [mv 3 0,ln 4 3,ei 5 4 0]
 (cd 5
 (sr [mc 2 12]
 (.ret))
 (.skip)))
 (.seq (sr [mv 6 0,ln 7 6,bc 8 .gtr 7 16]
 (cd 8
 (sr [mc 2 5]
 (.ret))
 (.skip)))
 (.seq (sr [mv 9 0,⟨(some 10),.iaddrSl 1 (.tmp 9) (.const (.int .i64 0)),none⟩,ld 11 10,ln 12 11,ei 13 12 0]
 (cd 13
 (sr [mc 2 12]
 (.ret))
 (.skip)))
 (.seq (sr [mv 14 0,⟨(some 15),.iaddrSl 1 (.tmp 14) (.const (.int .i64 0)),none⟩,ld 16 15,ln 17 16,bc 18 .gtr 17 16]
 (cd 18
 (sr [mc 2 5]
 (.ret))
 (.skip)))
 (sr [mv 19 0,mv 20 0,⟨(some 21),.iaddrSl 1 (.tmp 20) (.const (.int .i64 0)),none⟩,ld 22 21,ln 23 22,c2 24 91 19 23,mv 2 24]
 (.ret))))))
theorem A.c15:A.F 15=some ⟨25,[.tmp 2],A.b15⟩:=by kernel_rfl
def A.k15:=@A.kk 15 _ _ _ A.c15 rfl
theorem Ylc{l:List Str}(hs:Sl h N v (strs l))(hl:l.length<100000)(hf0:∀s∈l,s.length≤100000):Fn A.C 92 [v] h N (fun u _ _=>u=.int .i64 (Zak (l.map fun s=>((chkNum s:Nat):Int)))):=by
 intro w
 have hlen:=hs.len
 rw[Zb3]at hlen
 rw[Zaa,A.k92 (by simp)]
 simp[A.b92]
 refine Zaj [(2,18)] (fun e r st=>Zac N st.w=[]∧Keeps h N st.h st.n∧((e=.exit 0∧Zak (l.map fun s=>((chkNum s:Nat):Int))=0)∨(e=.ret∧r.get 2=some (.int .i64 (Zak (l.map fun s=>((chkNum s:Nat):Int))))))) (fun m r st=>Zac N st.w=[]∧Keeps h N st.h st.n∧∃k,k+m=l.length∧r.get 3=some (.int .i64 k)∧Zak (l.map fun s=>((chkNum s:Nat):Int))=Zak ((l.drop k).map fun s=>((chkNum s:Nat):Int))) l.length ?_ ?_ ?_
 ·exact⟨by simp,Keeps.refl,0,by omega,by simp,by simp⟩
 ·rintro m r ⟨H,n1,W⟩ hr hf ⟨hW,hK,k,hk,h7,hz⟩
  simp only at hW hK
  rw[Zah]
  cases m with
  |zero=>
   obtain rfl:k=l.length:=by omega
   rw[Ysq,Ytn,Zak]at hz
   simp[A.lb92_0,hr,hf,h7,hlen,hz,hW,hK]
  |succ m=>
   have hlt:k<l.length:=by omega
   obtain⟨s,hc⟩:=Zag hlt
   obtain⟨i,o,cc,e,rw,q1,q2,q3,q4⟩:=(hs.keep hK).at (Zf2 hc)
   rw[Zao hc,Yso,Zak]at hz
   have hk1:(k:Int)<(l.length:Int):=by omega
   simp[A.lb92_0,hr,h7,hk1,hlen,q1,q3,q4]
   refine Zab (Zqy (hf0 s (Yrv hc))) ?_
   rintro _ h3 n3 k3 rfl
   have kk:=hK.trans k3
   by_cases h0:chkNum s=0
   ·rw[Yru (by omega)]at hz
    simp(disch:=first|(simp;done)|omega|rfl) [hf,h7,h0,hW]
    exact⟨m,by omega,kk,k+1,by omega,by simp,by simpa using hz⟩
   ·rw[Yrq (by omega)]at hz
    have h0':¬((chkNum s:Nat):Int)=0:=by omega
    simp[hf,h0,hW,hz]
    exact kk
 ·rintro _ r ⟨H,n1,W⟩ hr ⟨hW,hK,⟨rfl,hz⟩|⟨rfl,h2⟩⟩
  ·simp only at hW hK
   simp[hz,Ret,hW,hK]
  ·simp only at hW hK
   simp[h2,Ret,hW,hK]
def Zb1(l:List Str)(n:Nat):Int:=if l.length=n then Zak (l.map fun s=>((chkNum s:Nat):Int)) else 2
def hdL(l:List (List Str)):Nat:=(l[0]?.getD []).length
def Zhh(l:List (List Str))(r c:Nat):Int:=if l.length=0∨hdL l=0 then 12 else if r<l.length∨c<hdL l then 5 else Zak (l.map fun x=>Zb1 x (hdL l))
theorem Zp7{l:List Str}{n:Nat}(hs:Sl h N v (strs l))(hl:l.length<100000)(hf0:∀s∈l,s.length≤100000):Fn A.C 16 [v,.int .i64 n] h N (fun u _ _=>u=.int .i64 (Zb1 l n)):=by
 intro w
 have hlen:=hs.len
 rw[Zb3]at hlen
 rw[Zaa,A.k16 (by simp)]
 by_cases c:l.length=n
 ·subst c
  simp[A.b16,hlen]
  refine Zab (Ylc hs hl hf0) ?_
  rintro _ H2 n2 k2 rfl
  simp[Ret,Zb1]
  exact k2
 ·have c':¬(l.length:Int)=(n:Int):=by omega
  simp[A.b16,hlen,c',Zb1,c,Ret]
  exact Keeps.refl
theorem Yli{l:List (List Str)}{a b:Nat}(hs:MtS h N v l)(hl:l.length<100000)(hx:∀x∈l,x.length<100000∧∀s∈x,s.length≤100000):Fn A.C 14 [v,.int .i64 a,.int .i64 b] h N (fun u _ _=>u=.int .i64 (Zhh l a b)):=by
 intro w
 have hlen:=hs.len
 rw[Zaa,A.k14 (by simp)]
 by_cases c0:l.length=0
 ·have c0':(l.length:Int)=0:=by omega
  simp[A.b14,hlen,c0,Zhh,Ret]
  exact Keeps.refl
 have c0':¬(l.length:Int)=0:=by omega
 have cpos:0<l.length:=by omega
 have cpos':0<(l.length:Int):=by omega
 obtain⟨l0,hl0⟩:=Zag cpos
 obtain⟨i0,o0,cc0,e0,rw0,u0,z1,z2,z3,z4,z5⟩:=hs.at hl0
 have z6:=z5.len
 rw[Zb3]at z6
 rw[Ys9]at z4
 obtain⟨n,hn⟩:∃n,n=l0.length:=⟨_,rfl⟩
 have en:hdL l=n:=by simp[hdL,hl0,hn]
 rw[←hn]at z6
 have hn1:n<100000:=by have:=(hx l0 (Yrv hl0)).1;omega
 by_cases c1:n=0
 ·have c1':(n:Int)=0:=by omega
  simp[A.b14,hlen,c0,cpos,z1,z3,z4,z6,c1,Zhh,en,Ret]
  exact Keeps.refl
 have c1':¬(n:Int)=0:=by omega
 by_cases c2:a<l.length
 ·have c2':(a:Int)<(l.length:Int):=by omega
  simp[A.b14,hlen,c0,cpos,z1,z3,z4,z6,c1,c2,c2',Zhh,en,Ret]
  exact Keeps.refl
 have c2':¬(a:Int)<(l.length:Int):=by omega
 by_cases c3:b<n
 ·have c3':(b:Int)<(n:Int):=by omega
  simp[A.b14,hlen,c0,cpos,z1,z3,z4,z6,c1,c2,c2',c3,c3',Zhh,en,Ret]
  exact Keeps.refl
 ·have c3':¬(b:Int)<(n:Int):=by omega
  have e1:Zhh l a b=Zak (l.map fun x=>Zb1 x n):=by simp[Zhh,en,c0,c1,c2,c3]
  rw[e1]
  simp[A.b14,hlen,c0,cpos,z1,z3,z4,z6,c1,c2',c3']
  refine Zaj [(6,8),(31,48)] (fun e r st=>Zac N st.w=[]∧Keeps h N st.h st.n∧((e=.exit 0∧Zak (l.map fun x=>Zb1 x n)=0)∨(e=.ret∧r.get 6=some (.int .i64 (Zak (l.map fun x=>Zb1 x n)))))) (fun m r st=>Zac N st.w=[]∧Keeps h N st.h st.n∧∃k,k+m=l.length∧r.get 7=some (.int .i64 k)∧Zak (l.map fun x=>Zb1 x n)=Zak ((l.drop k).map fun x=>Zb1 x n)) l.length ?_ ?_ ?_
  ·exact⟨by simp,Keeps.refl,0,by omega,by simp,by simp⟩
  ·rintro m r ⟨H,n1,W⟩ hr hf ⟨hW,hK,k,hk,h7,hz⟩
   simp only at hW hK
   rw[Zah]
   cases m with
   |zero=>
    obtain rfl:k=l.length:=by omega
    rw[Ysq,Ytn,Zak]at hz
    simp[A.lb14_0,hr,hf,h7,hlen,hz,hW,hK]
   |succ m=>
    have hlt:k<l.length:=by omega
    obtain⟨s,hc⟩:=Zag hlt
    obtain⟨i,o,cc,e,rw,u,q1,q2,q3,q4,q5⟩:=(hs.keep hK).at hc
    rw[Zao hc,Yso,Zak]at hz
    have hk1:(k:Int)<(l.length:Int):=by omega
    obtain⟨i1,o1,cc1,e1,rw1,u1,y1,y2,y3,y4,y5⟩:=(hs.keep hK).at hl0
    have y6:=y5.len
    rw[Zb3,←hn]at y6
    rw[Ys9]at y4
    obtain⟨rfl,rfl⟩:i=i1∧o=o1:=by rw[q1]at y1;simpa using y1
    obtain⟨rfl,rfl,rfl⟩:cc=cc1∧e=e1∧rw=rw1:=by rw[q3]at y3;simpa using y3
    simp[A.lb14_0,hr,h7,hk1,hlen,q1,q2,q3,q4,cpos,y4,y6]
    refine Zab (Zp7 q5 (hx s (Yrv hc)).1 (hx s (Yrv hc)).2) ?_
    rintro _ h3 n3 k3 rfl
    have kk:=hK.trans k3
    by_cases h0:Zb1 s n=0
    ·rw[Yru h0]at hz
     simp(disch:=first|(simp;done)|omega|rfl) [hf,h7,h0,hW]
     exact⟨m,by omega,kk,k+1,by omega,by simp,by simpa using hz⟩
    ·rw[Yrq h0]at hz
     simp[hf,h0,hW,hz]
     exact kk
  ·rintro _ r ⟨H,n1,W⟩ hr ⟨hW,hK,⟨rfl,hz⟩|⟨rfl,h2⟩⟩
   ·simp only at hW hK
    simp[hz,Ret,hW,hK]
   ·simp only at hW hK
    simp[h2,Ret,hW,hK]
end Go.Mx
