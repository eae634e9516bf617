/-
  reconstruct: when, checkEach, checkList, checkVectors, signed.
-/
import Derived.Test.YtlbophlgohokkaaGreatDoorVaB
set_option linter.all false
namespace Go.Mx
open Go Go.Proofs
set_option maxRecDepth 1000000
def A.tA:aq:=sr [bi 11 .lss 10 9]
 (.seq (cd 11
 (.skip)
 (.exit 0))
 (.seq (.block 1 (sr [ia 12 1 8 10,ld 13 12,mv 6 13]
 (sr [mv 14 1,mv 15 6,⟨(some 16),.call (.tmp 14) [(.tmp 15)],none⟩,mv 7 16]
 (sr [mv 17 7,ni 18 17 0]
 (cd 18
 (sr [mv 19 7,mv 4 19]
 (.ret))
 (.skip))))))
 (.aM [bc 20 .add 10 1,mv 10 20])))
def A.b84:aq:=sr [mc 4 0]
 (.seq (sr [mv 8 0,ln 9 8,mc 10 0]
 (.block 0 (.loop A.tA)))
 (sr [mc 4 0]
 (.ret)))
theorem A.c84:A.F 84=some ⟨21,[.tmp 4],A.b84⟩:=by kernel_rfl
def A.k84:=@A.kk 84 _ _ _ A.c84 rfl
def A.b68:aq:=sr [mc 4 0]
 (.seq (sr [mv 5 0,ln 6 5,mv 7 1,⟨(some 8),.bin .neq (.aI .int) false (.tmp 6) (.tmp 7),none⟩]
 (cd 8
 (sr [mc 4 2]
 (.ret))
 (.skip)))
 (sr [mv 9 0,⟨(some 10),.call (.const (.func 84 [] [])) [(.tmp 9),(.const (.func 151 [] []))],none⟩,mv 4 10]
 (.ret)))
theorem A.c68:A.F 68=some ⟨11,[.tmp 4],A.b68⟩:=by kernel_rfl
def A.k68:=@A.kk 68 _ _ _ A.c68 rfl
theorem Yly{h:T O}{N:Nat}{v f:V}{l:List a_}(P:a_->Int)(hs:Sl h N v (strs l))(hl:l.length<100000)(hf:∀s∈l,∀h' n',ab h N h' n'->jU A.C f [.str s] h' n' (fun u _ _=>u=.int .i64 (P s))):Fn A.C 84 [v,f] h N (fun u _ _=>u=.int .i64 (cn (l.map P))):=by
 intro w
 have hlen:=hs.len
 rw[yY]at hlen
 rw[aR,A.k84 (by simp)]
 simp[A.b84,hlen]
 refine bQ [(4,4),(6,7),(10,20)] (fun e r st=>ad N st.w=[]/\ab h N st.h st.n/\((e=.exit 0/\cn (l.map P)=0)\/(e=.ret/\r.get 4=some (.int .i64 (cn (l.map P)))))) (fun m r st=>ad N st.w=[]/\ab h N st.h st.n/\∃k,k+m=l.length/\r.get 10=some (.int .i64 k)/\cn (l.map P)=cn ((l.drop k).map P)) l.length ?_ ?_ ?_
 ·exact⟨by simp,ab.refl,0,by omega,by simp,by simp⟩
 ·rintro m r ⟨H,n1,W⟩ hr fI ⟨hW,hK,k,hk,h7,hz⟩
  simp only at hW hK
  rw[bA]
  cases m with
  |zero=>
   obtain rfl:k=l.length:=by omega
   rw[og,vP,cn]at hz
   simp[A.tA,hr,fI,h7,hz,hW,hK]
  |succ m=>
   have aD:k<l.length:=by omega
   obtain⟨s,hc⟩:=bV aD
   obtain⟨i,o,cc,e,rw,q1,q2,q3,q4⟩:=(hs.ae hK).at (Du hc)
   rw[ke hc,kg,cn]at hz
   have cK:(k:Int)<(l.length:Int):=by omega
   simp[A.tA,hr,h7,cK,hlen,q1,q3,q4]
   refine BD (hf s (du hc) _ _ hK) ?_
   rintro _ h3 n3 k3 rfl
   have kk:=hK.trans k3
   by_cases h0:P s=0
   ·rw[aF h0]at hz
    simp(disch:=first|(simp;done)|omega|rfl) [fI,h7,h0,hW]
    exact⟨m,by omega,kk,k+1,by omega,by simp,by simpa using hz⟩
   ·rw[au h0]at hz
    simp[fI,h0,hW,hz]
    exact kk
 ·rintro _ r ⟨H,n1,W⟩ hr ⟨hW,hK,⟨rfl,hz⟩|⟨rfl,h2⟩⟩
  ·simp only at hW hK
   simp[hz,aA,hW,hK]
  ·simp only at hW hK
   simp[h2,aA,hW,hK]
theorem Yau{h:T O}{N:Nat}{v:V}{l:List a_}{n:Nat}(hs:Sl h N v (strs l))(hl:l.length<100000)(qZ:∀s∈l,s.length<=100000):Fn A.C 68 [v,.int .i64 n] h N (fun u _ _=>u=.int .i64 (vu l n)):=by
 intro w
 have hlen:=hs.len
 rw[yY]at hlen
 rw[aR,A.k68 (by simp)]
 by_cases c:l.length=n
 ·subst c
  simp[A.b68,hlen]
  refine ax (Yly (fun s=>((bk s:Nat):Int)) hs hl fun s hs h' n' _=>Zwl (qZ s hs)) ?_
  rintro _ H2 n2 k2 rfl
  simp[aA,vu]
  exact k2
 ·have c':¬(l.length:Int)=(n:Int):=by omega
  simp[A.b68,hlen,c',vu,c,aA]
  exact ab.refl
set_option maxHeartbeats 1000000
def A.tB:aq:=sr [bi 9 .lss 8 7]
 (.seq (cd 9
 (.skip)
 (.exit 0))
 (.seq (.block 1 (sr [ia 10 1 6 8,ld 11 10,mv 4 11]
 (sr [mv 12 4,⟨(some 13),.call (.tmp 12) [],none⟩,mv 5 13]
 (sr [mv 14 5,ni 15 14 0]
 (cd 15
 (sr [mv 16 5,mv 2 16]
 (.ret))
 (.skip))))))
 (.aM [bc 17 .add 8 1,mv 8 17])))
def A.b64:aq:=sr [mc 2 0]
 (.seq (sr [mv 6 0,ln 7 6,mc 8 0]
 (.block 0 (.loop A.tB)))
 (sr [mc 2 0]
 (.ret)))
theorem A.c64:A.F 64=some ⟨18,[.tmp 2],A.b64⟩:=by kernel_rfl
def A.k64:=@A.kk 64 _ _ _ A.c64 rfl
theorem Yhl{h:T O}{N:Nat}{v:V}{fs:List V}{l:List Int}(hs:Sl h N v fs)(Li:fs.length=l.length)(hl:l.length<1000)(hf:∀(j:Nat) (f:V) (e:Int),fs[j]?=some f->l[j]?=some e->(∀(i:Nat) (x:Int),i<j->l[i]?=some x->x=0)->∀h' n',ab h N h' n'->jU A.C f [] h' n' (fun u _ _=>u=.int .i64 e)):Fn A.C 64 [v] h N (fun u _ _=>u=.int .i64 (cn l)):=by
 intro w
 have hlen:=hs.len
 rw[Li]at hlen
 rw[aR,A.k64 (by simp)]
 simp[A.b64,hlen]
 refine bQ [(2,2),(4,5),(8,17)] (fun e r st=>ad N st.w=[]/\ab h N st.h st.n/\((e=.exit 0/\cn l=0)\/(e=.ret/\r.get 2=some (.int .i64 (cn l))))) (fun m r st=>ad N st.w=[]/\ab h N st.h st.n/\∃k,k+m=l.length/\r.get 8=some (.int .i64 k)/\cn l=cn (l.drop k)/\∀(i:Nat) (x:Int),i<k->l[i]?=some x->x=0) l.length ?_ ?_ ?_
 ·exact⟨by simp,ab.refl,0,by omega,by simp,by simp,fun i x hi=>by omega⟩
 ·rintro m r ⟨H,n1,W⟩ hr fI ⟨hW,hK,k,hk,h7,hz,h00⟩
  simp only at hW hK
  rw[bA]
  cases m with
  |zero=>
   obtain rfl:k=l.length:=by omega
   rw[og,cn]at hz
   simp[A.tB,hr,fI,h7,hz,hW,hK]
  |succ m=>
   have aD:k<l.length:=by omega
   obtain⟨s,hc⟩:=bV aD
   obtain⟨f,hfk⟩:=bV (show k<fs.length by omega)
   obtain⟨i,o,cc,e,rw,q1,q2,q3,q4⟩:=(hs.ae hK).at hfk
   rw[ke hc,cn]at hz
   have cK:(k:Int)<(l.length:Int):=by omega
   simp[A.tB,hr,h7,cK,hlen,q1,q3,q4]
   refine BD (hf k f s hfk hc h00 _ _ hK) ?_
   rintro _ h3 n3 k3 rfl
   have kk:=hK.trans k3
   by_cases h0:s=0
   ·rw[aF h0]at hz
    simp(disch:=first|(simp;done)|omega|rfl) [fI,h7,h0,hW]
    refine⟨m,by omega,kk,k+1,by omega,by simp,hz,fun i x hi hx=>?_⟩
    by_cases Il:i<k
    ·exact h00 i x Il hx
    ·obtain rfl:i=k:=by omega
     rw[hc]at hx
     rw[<-h0]
     simpa using hx.symm
   ·rw[au h0]at hz
    simp[fI,h0,hW,hz]
    exact kk
 ·rintro _ r ⟨H,n1,W⟩ hr ⟨hW,hK,⟨rfl,hz⟩|⟨rfl,h2⟩⟩
  ·simp only at hW hK
   simp[hz,aA,hW,hK]
  ·simp only at hW hK
   simp[h2,aA,hW,hK]
variable {N n n':Nat} {h h':T O} {l:List Rat} {u v:V}
set_option maxHeartbeats 2000000
def A.tC:aq:=sr [bi 11 .lss 10 9]
 (.seq (cd 11
 (.skip)
 (.exit 0))
 (.seq (.block 1 (sr [ia 12 1 8 10,ld 13 12,mv 7 13]
 (.aM [mv 14 5,mv 15 1,mv 16 7,⟨(some 17),.call (.tmp 15) [(.tmp 16)],none⟩,⟨(some 18),.aO 114 4 1 [(.int .i64 0),.aa,(.int .i64 0),.aa] [(0,4,(.tmp 17))],none⟩,⟨(some 19),.append 4 64 114 [(.int .i64 0),.aa,(.int .i64 0),.aa] (.tmp 14) (.tmp 18),none⟩,mv 5 19])))
 (.aM [bc 20 .add 10 1,mv 10 20])))
def A.b86:aq:=sr [mN 4]
 (sr [mN 5]
 (.seq (sr [mv 8 0,ln 9 8,mc 10 0]
 (.block 0 (.loop A.tC)))
 (sr [mv 21 5,mv 4 21]
 (.ret))))
theorem A.c86:A.F 86=some ⟨22,[.tmp 4],A.b86⟩:=by kernel_rfl
def A.k86:=@A.kk 86 _ _ _ A.c86 rfl
theorem Yf4{f:V}{l:List V}{Q:Nat->T O->Nat->List V->Prop}(Y:V->Prop)(hQ:∀j h n h' n' c u,Q j h n c->ff (fun i=>i∈cA u) h n h' n'->nz 114 Y h u->Q j h' n' c)(hs:Sl h N v l)(hl:l.length<1000000000)(hf:∀(j:Nat) (x:V),l[j]?=some x->∀h' n',ab h N h' n'->jU A.C f [x] h' n' (fun u h2 n2=>∃c,u=(.agg c)/\c.length=4/\c.all V.one=true/\(∀q∈c,Y q)/\Q j h2 n2 c)):Fn A.C 86 [v,f] h N (fun u h' n'=>∃out,Own 4 114 N h' n' u out/\out.length=l.length/\∀(j:Nat),j<l.length->∃c,out[j]?=some c/\Q j h' n' c):=by
 intro w
 have hlen:=hs.len
 rw[aR,A.k86 (by simp)]
 simp[A.b86,hlen]
 refine bQ [(5,5),(7,7),(10,20)] (fun e r st=>e=.exit 0/\ad N st.w=[]/\ab h N st.h st.n/\∃u out,r.get 5=some u/\Own 4 114 N st.h st.n u out/\out.length=l.length/\∀(j:Nat),j<l.length->∃c,out[j]?=some c/\Q j st.h st.n c) (fun m r st=>ad N st.w=[]/\ab h N st.h st.n/\∃k u out,k+m=l.length/\r.get 10=some (.int .i64 k)/\r.get 5=some u/\Own 4 114 N st.h st.n u out/\out.length=k/\(out=[]->u=.aa)/\(∀c∈out,∀y∈c,Y y)/\∀(j:Nat),j<k->∃c,out[j]?=some c/\Q j st.h st.n c) l.length ?_ ?_ ?_
 ·exact⟨by simp,ab.refl,0,.aa,[],by omega,by simp,by simp,Own.nil,rfl,fun _=>rfl,by simp,fun j hj=>by omega⟩
 ·rintro m r ⟨H,n1,W⟩ hr fI ⟨hW,hK,k,u,out,hk,eM,h5,ho,iN,ym,hY,d_⟩
  simp only at hW hK ho d_
  rw[bA]
  cases m with
  |zero=>
   have At:k=l.length:=by omega
   subst At
   simp[A.tC,hr,fI,eM,hW,hK]
   exact⟨u,h5,out,ho,iN,d_⟩
  |succ m=>
   have aD:k<l.length:=by omega
   obtain⟨x,hx⟩:=bV aD
   obtain⟨i,o,cc,e,rw,q1,q2,q3,q4⟩:=(hs.ae hK).at hx
   have cK:(k:Int)<(l.length:Int):=by omega
   have kA:=hK
   simp[A.tC,hr,eM,h5,cK,hlen,q1,q3,q4]
   refine BD (hf k x hx _ _ kA) ?_
   rintro _ h3 n3 k3 ⟨c,rfl,c1,c2,cY,c3⟩
   have iX:=k3.le
   have kn:=hK.le
   have kB:=kA.trans k3
   have b1:∀v:List V,(V.agg v).cells=v:=fun _=>rfl
   have b2:ag [(.int .i64 0),.aa,(.int .i64 0),.aa] 0 c=c:=by unfold ag;rw[c1];simp
   simp[-V.cells, -V.one,b1,b2,c1,c2]
   have uB:Own 4 114 N (h3.set n3 (.cells c 114 true)) (n3+1) u out:=(ho.ae ((ab.refl).trans k3)).ae (ab.refl.new _)
   obtain⟨v',h',w',f1,f2,f3,f4,fD,f5⟩:=zy (Y:=Y) (x:=c) (u:=.slice n3 0 1 (some 1) 4) (bytes:=64) (w:=W) uB ym hY (by omega) (by decide) c1 (by simp only[eC,St.row,T.ai,if_true];unfold aJ;simp[c1];exact eF (by omega)) (by omega)
   rw[f1]
   have iV:¬n1<N:=by omega
   have f6:ad N w'=[]:=by rw[f2];simp[hW]
   have kz:=(kB.new (.cells c 114 true)).then f3
   have k4:ab h3 n3 (h3.set n3 (.cells c 114 true)) (n3+1):=ab.refl.new _
   have Es:Q k (h3.set n3 (.cells c 114 true)) (n3+1) c:=hQ _ _ _ _ _ _ .aa c3 k4.upd nz.nil
   simp(disch:=first|(simp;done)|omega|rfl) [fI,eM,f6]
   refine⟨m,by omega,kz,k+1,by omega,by simp,out++[c],f5,by simp[iN],by simp,fun c' hc z hz=>?_,fun j hj=>?_⟩
   ·rcases oF.1 hc with hc|hc
    ·exact hY c' hc z hz
    ·simp only[vM]at hc;subst hc;exact cY z hz
   by_cases rl:j<k
   ·obtain⟨c,g1,g2⟩:=d_ j rl
    exact⟨c,by rw[lX (by omega)];exact g1,hQ _ _ _ _ _ _ _ (hQ _ _ _ _ _ _ .aa g2 (((ab.refl).trans k3).trans k4).upd nz.nil) f4 fD⟩
   ·obtain rfl:j=k:=by omega
    exact⟨c,by rw[pX (by omega),iN];simp,hQ _ _ _ _ _ _ _ Es f4 fD⟩
 ·rintro _ r ⟨H,n1,W⟩ hr ⟨rfl,hW,hK,u,out,h5,ho,iN,d_⟩
  simp only at hW hK ho d_
  simp[h5,aA,hW,hK]
  exact⟨out,ho,iN,d_⟩
def A.tD:aq:=sr [bi 11 .lss 10 9]
 (.seq (cd 11
 (.skip)
 (.exit 0))
 (.seq (.block 1 (sr [mv 12 10,mv 6 12]
 (.aV [lN 13 4 5,mv 14 0,mv 15 6,ia 16 4 14 15,lN 17 4 16,mv 18 1,mv 19 6,ia 20 4 18 19,lN 21 4 20,c2 22 90 17 21,c2 23 120 13 22,⟨none,.store 4 (.tmp 5) (.tmp 23),none⟩] [0,0,0,6,14,0,0,96,224,510,1023,2047])))
 (.aM [bc 24 .add 10 1,mv 10 24])))
def A.b88:aq:=sr [⟨(some 4),.alloc [(.int .i64 0),.aa,(.int .i64 0),.aa] 114,none⟩]
 (sr [⟨(some 7),.call (.const (.func 118 [] [])) [(.const (.int .i64 0))],none⟩,⟨(some 5),.alloc [(.int .i64 0),.aa,(.int .i64 0),.aa] 114,none⟩,⟨none,.store 4 (.tmp 5) (.tmp 7),none⟩]
 (.seq (sr [mv 8 0,ln 9 8,mc 10 0]
 (.block 0 (.loop A.tD)))
 (sr [lN 25 4 5,⟨none,.store 4 (.tmp 4) (.tmp 25),none⟩]
 (.ret))))
theorem A.c88:A.F 88=some ⟨26,[.cell 4 (some 4)],A.b88⟩:=by kernel_rfl
def A.k88:=@A.kk 88 _ _ _ A.c88 rfl
abbrev NW(y:V):Prop:=∀m,y≠.int .u64 m
theorem In.bY{x:V}{z:Int}{e:TypeId}(s:In h n x z)(k:ff (fun i=>i∈cA v) h n h' n')(hd:nz e NW h v):In h' n' x z:=by
 rcases s with s|⟨i,o,l,c,s1,s2,s3⟩
 ·exact .inl s
 ·refine .inr ⟨i,o,l,c,s1,Sl.bY s2 k fun j hj hjv=>?_,s3⟩
  simp[cA]at hj
  subst hj
  obtain⟨z2,g1,_,g3⟩:=hd j hjv
  unfold Wn at s2
  have bJ:aC z.natAbs≠[]:=fun h0=>by
   have:=kv z.natAbs
   rw[h0]at this
   simp[val]at this
   omega
  obtain⟨d,ds,nG⟩:=List.exists_cons_of_ne_nil bJ
  have T7:(dg (aC z.natAbs))[0]?=some (.int .u64 d):=by rw[nG];simp[dg]
  obtain⟨i2,o2,c2,e2,Wv,q1,q2,q3,q4⟩:=Sl.at s2 T7
  simp[vc]at q1
  obtain⟨rfl,rfl⟩:=q1
  rw[g1]at q3
  simp only[aj,O.cells.injEq]at q3
  obtain⟨rfl,_⟩:=q3
  exact g3 _ (du q4) _ rfl
theorem eG.bY{c:List V}{q:Rat}{e:TypeId}(s:eG h n c q)(k:ff (fun i=>i∈cA v) h n h' n')(hd:nz e NW h v):eG h' n' c q:=by
 obtain⟨n1,u1,n2,u2,rfl,s1,s2⟩:=s
 exact⟨n1,u1,n2,u2,rfl,s1.bY k hd,s2.bY k hd⟩
theorem Sn.yn{z:Nat}{l:List (List V)}(s:Sn z h N v l):∀i∈cA v,i<N:=fun i hi=>by
 rcases s with⟨_,rfl|rfl⟩|⟨j,o,cp,c,e,rw,rfl,hj,_⟩
 ·simp[cA]at hi
 ·simp[cA]at hi
 ·simp[cA]at hi;omega
theorem Sn.bY{z:Nat}{D:Nat->Prop}{N':Nat}{l:List (List V)}(s:Sn z h N v l)(k:ff D h N h' N')(hd:∀i∈cA v,¬D i):Sn z h' N' v l:=by
 rcases s with s|⟨i,o,cp,c,e,rw,rfl,h2,h3,h4⟩
 ·exact .inl s
 ·exact .inr ⟨i,o,cp,c,e,rw,rfl,eY h2 k.le,(k.get i h2 (hd i (by simp[cA]))).trans h3,h4⟩
theorem fK.ae{N':Nat}(s:fK h N u l)(k:ab h N h' N'):fK h' N' u l:=⟨s.1.ae k,fun i hi=>by
 obtain⟨cs,h1,_⟩:=s.1
 rw[k.get i (h1.yn i hi)]
 exact s.2 i hi⟩
theorem fK.bY{e:TypeId}(s:fK h n u l)(k:ff (fun i=>i∈cA v) h n h' n')(hd:nz e NW h v)(he:e≠114):fK h' n' u l:=by
 obtain⟨⟨cs,h1,h2,h3⟩,h4⟩:=s
 have hn:∀i∈cA u,i∉cA v:=fun i hi hc=>by
  obtain⟨z,w,hz⟩:=h4 i hi
  obtain⟨z2,cX,_⟩:=hd i hc
  rw[hz]at cX
  simp at cX
  exact he cX.2.1.symm
 refine⟨⟨cs,h1.bY k hn,h2,fun j q hq=>?_⟩,fun i hi=>by rw[k.get i (h1.yn i hi) (hn i hi)];exact h4 i hi⟩
 obtain⟨c,g1,g2⟩:=h3 j q hq
 exact⟨c,g1,g2.bY k hd⟩
theorem V7{N0:Nat}{out:List (List V)}(s:Own 4 114 N0 h N v out)(hl:out.length=l.length)(hc:∀(j:Nat),j<l.length->∃c,out[j]?=some c/\∀q,l[j]?=some q->eG h N c q):fK h N v l:=by
 refine⟨⟨out,s.sn,hl,fun j q hq=>?_⟩,fun i hi=>?_⟩
 ·obtain⟨c,g1,g2⟩:=hc j (mM hq)
  exact⟨c,g1,g2 q hq⟩
 ·obtain⟨_,⟨_,rfl⟩|⟨j,rfl,_,_,hg⟩⟩:=s
  ·simp[cA]at hi
  ·simp[cA]at hi;subst hi;exact⟨_,_,hg⟩
structure DtI (h:T O) (N p:Nat) (a b:List Rat) (m:Nat) (r:T V) (st:St):Prop where
 w:ad N st.w=[]
 ae:ab h N st.h st.n
 ex:∃(t:Nat) (c:List V),t+m=a.length/\r.get 10=some (.int .i64 t)/\p<st.n/\st.h.get N=some (.cells zF 114 true)/\st.h.get p=some (.cells c 114 true)/\eG st.h st.n c (sS a b t)
theorem Yop{a b:List Rat}{j k:Nat}(hu:nW h N u a)(hv:nW h N v b)(gT:a.length<=b.length)(ha:∀q∈a,Qb j q)(hb:∀q∈b,Qb k q)(hj:1<=j)(hk:1<=k)(hl:a.length*(j+k+1)+j+k+1<=400000000):Fn A.C 88 [u,v] h N (fun x h' n'=>Fc h' n' x (AO a b)):=by
 intro w
 have l1:=hu.len
 have l2:=hv.len
 have hal:a.length<=400000000:=by have:=Nat.le_mul_of_pos_right a.length (show 0<j+k+1 by omega);omega
 rw[aR,A.k88 (by simp)]
 simp[A.b88]
 refine ax (NH (by omega) (by omega)) ?_
 rintro _ h1 n1 k1 hz
 obtain⟨c,rfl,hc⟩:=hz.c
 have kB:ab h N (h.set N (.cells zF 114 true)) (N+1):=ab.refl.new _
 have Fi:=k1.le
 have g1:=k1.get N (by omega)
 rw[T.ai,aF rfl]at g1
 obtain⟨e1,e2⟩:=hc.len
 have jP:(V.agg c).cells=c:=rfl
 have e4:ag zF 0 c=c:=by unfold ag;rw[e1];simp[zF]
 have Cu:rD zF:=by intro x hx m;simp[zF]at hx;rcases hx with rfl|rfl|rfl|rfl<;>simp
 unfold zF at e4
 simp[-V.cells, -V.one,jP,e1,e2,e4,bW,l1]
 generalize hH:(h1.set n1 (.cells [.int .i64 0,.aa,.int .i64 0,.aa] 114 true)).set n1 (.cells c 114 true)=H1
 have kA:ab h1 n1 H1 (n1+1):=by rw[<-hH];exact(ab.refl.new _).set (aS _)
 have kC:ab h N H1 (n1+1):=(kB.trans k1).trans kA
 have g2:H1.get n1=some (.cells c 114 true):=by rw[<-hH];simp
 have g3:=(kA.get N (by omega)).trans g1
 clear hH
 refine bQ [(6,6),(10,24)] (fun e r st=>e=.exit 0/\DtI h N n1 a b 0 r st) (DtI h N n1 a b) a.length ?_ ?_ ?_
 ·exact⟨by simp;omega,kC,0,c,by omega,by simp,by show n1<n1+1;omega,g3,g2,by simpa[sS]using hc.ae kA⟩
 ·rintro m r ⟨H,n2,W⟩ hr hf ⟨hW,hK,t,c0,ht,eM,Lj,qg,rC,qf⟩
  simp only at hW hK Lj qg rC qf
  rw[bA]
  cases m with
  |zero=>
   obtain rfl:t=a.length:=by omega
   simp[A.tD,hr,hf,eM]
   exact⟨hW,hK,a.length,c0,by omega,by simp[eM],Lj,qg,rC,qf⟩
  |succ m=>
   have aD:t<a.length:=by omega
   have bm:(t:Int)<(a.length:Int):=by omega
   have jv:t<b.length:=by omega
   have x9:(t:Int)<(b.length:Int):=by omega
   obtain⟨x,hx⟩:=bV aD
   obtain⟨y,hy⟩:=bV jv
   have A9:=ha x (du hx)
   have rJ:=hb y (du hy)
   have lC:=NO ha hb hj hk t
   have NL:=A9.mul rJ
   have hmul:t*(j+k+1)<=a.length*(j+k+1):=jn _ (by omega)
   have ee:sS a b (t+1)=sS a b t+x*y:=by simp[sS,hx,hy]
   obtain⟨i,o,cc,e,rw,ca,q1,q2,q3,q4,q5⟩:=(hu.ae hK).at hx
   obtain⟨i',o',cc',e',vf,cb,p1,p2,p3,p4,p5⟩:=(hv.ae hK).at hy
   have s0:aJ c0 0 4=some c0:=by unfold aJ;rw[qf.len.1];simp;exact eF (by rw[qf.len.1];omega)
   simp[A.tD,hr,eM,l1,l2,bm,x9,rC,s0,q1,q2,q3,q4,p1,p2,p3,p4]
   have w1:=wv A9.1
   have w2:=wv (z:=(x.den:Int)) (k:=j) (by rw[dm];exact A9.2)
   have w3:=wv rJ.1
   have w4:=wv (z:=(y.den:Int)) (k:=k) (by rw[dm];exact rJ.2)
   have w5:=wv lC.1
   have w6:=wv (z:=((sS a b t).den:Int)) (by rw[dm];exact lC.2)
   have w7:=wv NL.1
   have w8:=wv (z:=((x*y).den:Int)) (by rw[dm];exact NL.2)
   refine ax (Ycs q5.fc p5.fc (by omega) (by omega) (by omega) (by omega)) ?_
   rintro x3 h3 n3 k3 hm3
   simp[]
   refine ax (NK (qf.ae k3).fc hm3 (by omega) (by omega) (by omega) (by omega)) ?_
   rintro _ h4' n4 k4 Ol
   rw[<-ee]at Ol
   obtain⟨c4,rfl,hc4⟩:=Ol.c
   have zp:=k3.le
   have Kk:=k4.le
   have gp4:=(k4.get n1 (by omega)).trans ((k3.get n1 (by omega)).trans rC)
   have g04:=(k4.get N (by omega)).trans ((k3.get N (by omega)).trans qg)
   obtain⟨f1,f2⟩:=hc4.len
   have f3:=qf.len.1
   have V8:(V.agg c4).cells=c4:=rfl
   have e5:ag c0 0 c4=c4:=by unfold ag;rw[f1];simp[f3]
   simp[-V.cells, -V.one,hr,V8,f1,f2,f3,e5,gp4,bW]
   have d2:n1<n4:=by omega
   have d3:¬N=n1:=by omega
   have d4:¬n1<N:=by omega
   refine(DM (by simp[-ad,Lj,d2])).2 ?_
   simp(disch:=first|(simp;done)|omega|rfl) [hf,eM,d2]
   exact⟨m,by omega,by simp[ad,hW,d4],((hK.trans k3).trans k4).set (by omega),t+1,c4,by omega,by simp,d2,by show T.get _ N=_;rw[T.ai,au d3];exact g04,by show T.get _ n1=_;rw[T.ai,aF rfl],hc4.aE gp4 qf.EI (by rw[f1,f3])⟩
 ·rintro _ r ⟨H,n2,W⟩ hr ⟨rfl,hW,hK,t,c0,ht,eM,Lj,qg,rC,qf⟩
  simp only at hW hK Lj qg rC qf
  obtain rfl:t=a.length:=by omega
  have s0:aJ c0 0 4=some c0:=by unfold aJ;rw[qf.len.1];simp;exact eF (by rw[qf.len.1];omega)
  have V9:(V.agg c0).cells=c0:=rfl
  have e5:ag zF 0 c0=c0:=by unfold ag;rw[qf.len.1];simp[zF]
  have f1:=qf.len.1
  have f2:=qf.len.2
  unfold zF at e5 qg
  simp[-V.cells, -V.one,hr,rC,qg,s0,bW,V9,f1,f2,e5,aA]
  exact⟨hW,hK.set (aS N),(qf.aE qg Cu (by rw[f1];rfl)).fc⟩
variable {N:Nat} {h:T O} {m:List (List Rat)} {v:V}
def A.b141:aq:=sr [bx 3 3 1,mN 4]
 (sr [mv 5 0,⟨(some 6),.bM 209 [] [(.tmp 3)],none⟩,c2 7 86 5 6,mv 4 7]
 (.ret))
theorem A.c141:A.F 141=some ⟨8,[.tmp 4],A.b141⟩:=by kernel_rfl
def A.k141:=@A.kk 141 _ _ _ A.c141 rfl
def A.b209:aq:=sr [⟨(some 3),.alloc [(.int .i64 0),.aa,(.int .i64 0),.aa] 114,none⟩]
 (sr [mv 4 0,ld 5 1,ia 6 4 4 5,lN 7 4 6,⟨none,.store 4 (.tmp 3) (.tmp 7),none⟩]
 (.ret))
theorem A.c209:A.F 209=some ⟨8,[.cell 3 (some 4)],A.b209⟩:=by kernel_rfl
def A.k209:=@A.kk 209 _ _ _ A.c209 rfl
def vE(h:T O)(N:Nat)(v:V)(m:List (List Rat)):Prop:=∃us:List V,Sl h N v us/\us.length=m.length/\∀(j:Nat) (l:List Rat),m[j]?=some l->∃u,us[j]?=some u/\fK h N u l
theorem vE.ae{h':T O}{N':Nat}(s:vE h N v m)(k:ab h N h' N'):vE h' N' v m:=by
 obtain⟨us,h1,h2,h3⟩:=s
 refine⟨us,h1.ae k,h2,fun j l hl=>?_⟩
 obtain⟨u,g1,g2⟩:=h3 j l hl
 exact⟨u,g1,g2.ae k⟩
theorem vE.len(s:vE h N v m):ki v=some m.length:=by
 obtain⟨us,h1,h2,_⟩:=s
 rw[h1.len,h2]
theorem nW.form{l:List Rat}(s:nW h N v l):V.one v=true/\V.cells v=[v]/\NW v:=by
 obtain⟨cs,⟨_,rfl|rfl⟩|⟨i,o,cp,c,e,rw,rfl,_⟩,_⟩:=s
 ·exact⟨rfl,rfl,fun m=>by simp⟩
 ·exact⟨rfl,rfl,fun m=>by simp⟩
 ·exact⟨rfl,rfl,fun m=>by simp⟩
theorem Yk3{f:V}(F:List Rat->Rat)(hs:vE h N v m)(hl:m.length<1000000000)(hf:∀l∈m,∀u h' n',ab h N h' n'->fK h' n' u l->jU A.C f [u] h' n' (fun x h2 n2=>Fc h2 n2 x (F l))):Fn A.C 86 [v,f] h N (fun u h' n'=>fK h' n' u (m.map F)):=by
 obtain⟨us,h1,h2,h3⟩:=hs
 have key:=Yf4 (f:=f) (Q:=fun j h n c=>∀q,(m.map F)[j]?=some q->eG h n c q) NW (fun j h n h' n' c u hq k hd q wy=>(hq q wy).bY k hd) h1 (by omega) ?_
 ·intro w
  refine(key w).mono fun u st=>?_
  rintro⟨q1,q2,out,o1,o2,o3⟩
  exact⟨q1,q2,V7 o1 (by simpa[h2]using o2) fun j hj=>o3 j (by simp at hj;omega)⟩
 ·intro j x hx h' n' hk
  obtain⟨l,hl⟩:=bV (l:=m) (k:=j) (by have:=mM hx;omega)
  obtain⟨u,g1,g2⟩:=h3 j l hl
  rw[hx]at g1
  obtain rfl:x=u:=by simpa using g1
  refine fun w=>(hf l (du hl) x h' n' hk (g2.ae hk) w).mono fun y st=>?_
  rintro⟨q1,q2,q3⟩
  obtain⟨c,rfl,hc⟩:=q3.c
  refine⟨q1,q2,c,rfl,hc.len.1,hc.len.2,hc.EI,fun q hq=>?_⟩
  simp[hl]at hq
  rw[<-hq]
  exact hc
theorem Yma{p:Nat}{u:V}{l:List Rat}{k:Nat}{e:TypeId}{rw:Bool}(hp:h.get p=some (.cells [.int .i64 k] e rw))(vj:p<N)(hu:nW h N u l)(hk:k<l.length):jU A.C (.func 209 [] [.ptr p 0]) [u] h N (fun x h' n'=>Fc h' n' x (l[k]?.getD 0)):=by
 intro w
 have l1:=hu.len
 have eQ:(k:Int)<(l.length:Int):=by omega
 obtain⟨q,hq⟩:=bV hk
 obtain⟨i,o,cc,e,rw,c,q1,q2,q3,q4,q5⟩:=hu.at hq
 obtain⟨e1,e2⟩:=q5.len
 have kB:ab h N (h.set N (.cells zF 114 true)) (N+1):=ab.refl.new _
 have jP:(V.agg c).cells=c:=rfl
 have e4:ag zF 0 c=c:=by unfold ag;rw[e1];simp[zF]
 have Cu:rD zF:=by intro x hx m;simp[zF]at hx;rcases hx with rfl|rfl|rfl|rfl<;>simp
 have s0:aJ c 0 4=some c:=by unfold aJ;rw[e1];simp;exact eF (by omega)
 have kk:=kB.set (h:=h) (n:=N) (i:=N) (o:=.cells c 114 true) (aS N)
 have ic:=((q5.ae kB).aE (i:=N) (e0:=114) (w0:=true) (e1:=114) (w1:=true) (c1:=c) (by rw[T.ai,aF rfl]) Cu (by rw[e1];rfl)).fc
 have d1:¬p=N:=by omega
 have d2:¬i=N:=by omega
 rw[hq]
 unfold zF at e4
 rw[aR,A.k209 (by simp)]
 simp[-V.cells, -V.one,A.b209,hp,d1,d2,l1,eQ,q1,q3,q4,jP,e1,e2,e4,s0,bW,aA]
 exact⟨kk,ic⟩
theorem Yhc{u:V}{k n:Nat}(hu:vE h N u m)(vo:m.length<100000)(hm:∀r∈m,r.length=n)(hk:k<n):Fn A.C 141 [u,.int .i64 k] h N (fun x h' n'=>fK h' n' x (sX m k)):=by
 intro w
 rw[aR,A.k141 (by simp)]
 have kB:ab h N (h.set N (.cells [.int .i64 k] 3 true)) (N+1):=ab.refl.new _
 simp[A.b141]
 refine ax (Yk3 (fun r=>r[k]?.getD 0) (hu.ae kB) (by omega) fun l kl x h' n' jJ hx=>?_) ?_
 ·exact Yma (e:=3) (rw:=true) (by rw[jJ.get N (by omega)];simp) (by have:=jJ.le;omega) hx.1 (by rw[hm l kl];exact hk)
 ·rintro x h4 n4 k4 hx
  simp[aA]
  exact⟨kB.trans k4,hx⟩
variable {N:Nat} {h:T O} {l:List Rat} {m:List (List Rat)} {u v:V}
def A.pP:aq:=sr [bi 9 .lss 8 7]
 (.seq (cd 9
 (.skip)
 (.exit 0))
 (.seq (.block 1 (sr [mv 10 8,mv 5 10]
 (sr [mv 11 1,mv 12 0,mv 13 5,ia 14 4 12 13,lN 15 4 14,⟨(some 16),.call (.tmp 11) [(.tmp 15)],none⟩]
 (cd 16
 (sr [mv 17 5,mv 4 17]
 (.ret))
 (.skip)))))
 (.aM [bc 18 .add 8 1,mv 8 18])))
def A.b198:aq:=sr [mc 4 0]
 (.seq (sr [mv 6 0,ln 7 6,mc 8 0]
 (.block 0 (.loop A.pP)))
 (sr [⟨(some 4),.aY (.const (.int .i64 (-1))),none⟩]
 (.ret)))
theorem A.c198:A.F 198=some ⟨19,[.tmp 4],A.b198⟩:=by kernel_rfl
def A.k198:=@A.kk 198 _ _ _ A.c198 rfl
theorem Yli{f:V}(l:List (List V))(p:Nat->Bool)(hs:Sn 4 h N v l)(hl:l.length<1152921504606846976)(hf:∀(j:Nat) (x:List V),l[j]?=some x->∀h' n',ab h N h' n'->jU A.C f [.agg x] h' n' (fun u _ _=>u=.bool (p j))):Fn A.C 198 [v,f] h N (fun u _ _=>u=.int .i64 (mP p 0 l.length)):=by
 intro w
 have hlen:=hs.len
 rw[aR,A.k198 (by simp)]
 simp[A.b198,hlen]
 refine bQ [(4,5),(8,18)] (fun e r st=>ad N st.w=[]/\ab h N st.h st.n/\((e=.exit 0/\mP p 0 l.length= -1)\/(e=.ret/\r.get 4=some (.int .i64 (mP p 0 l.length))))) (fun m r st=>ad N st.w=[]/\ab h N st.h st.n/\∃k,k+m=l.length/\r.get 8=some (.int .i64 k)/\mP p 0 l.length=mP p k m) l.length ?_ ?_ ?_
 ·exact⟨by simp,ab.refl,0,by omega,by simp,rfl⟩
 ·rintro m r ⟨H,n1,W⟩ hr fI ⟨hW,hK,k,hk,h8,hz⟩
  simp only at hW hK
  rw[bA]
  cases m with
  |zero=>
   have:k=l.length:=by omega
   subst this
   simp only[mP]at hz
   simp[A.pP,hr,fI,h8,hW,hK,hz]
  |succ m=>
   have aD:k<l.length:=by omega
   obtain⟨c,hc⟩:=bV aD
   obtain⟨i,o,cc,e,rw,q1,q2,q3,q4⟩:=hs.at hc
   have q3:=(hK.get _ q2).trans q3
   have cK:(k:Int)<(l.length:Int):=by omega
   simp only[mP]at hz
   simp[A.pP,hr,h8,cK,hlen,q1,q3,q4]
   refine BD (hf k c hc _ _ hK) ?_
   rintro v h2 n2 k2 rfl
   have kk:=hK.trans k2
   cases hp:p k
   ·rw[hp]at hz
    simp(disch:=first|(simp;done)|omega|rfl) [fI,h8,hW,kk]
    exact⟨m,by omega,k+1,by omega,by simp,by simpa using hz⟩
   ·rw[hp]at hz
    simp[fI,hW,kk]
    simpa using hz.symm
 ·rintro e r ⟨H,n1,W⟩ hr ⟨hW,hK,⟨rfl,hz⟩|⟨rfl,h4⟩⟩
  ·simp only at hW hK
   simp[hz,aA,hW,hK]
  ·simp only at hW hK
   simp[h4,aA,hW,hK]
def A.b126:aq:=sr [⟨(some 4),.aY (.const (.bool false)),none⟩]
 (sr [mv 5 0,mv 6 1,c2 7 198 5 6,bc 8 .geq 7 0,mv 4 8]
 (.ret))
theorem A.c126:A.F 126=some ⟨9,[.tmp 4],A.b126⟩:=by kernel_rfl
def A.k126:=@A.kk 126 _ _ _ A.c126 rfl
def A.b69:aq:=sr [mN 2,mc 3 0]
 (.seq (sr [mv 4 0,⟨(some 5),.call (.const (.func 126 [] [])) [(.tmp 4),(.const (.func 106 [] []))],none⟩]
 (cd 5
 (sr [mN 2,mc 3 4]
 (.ret))
 (.skip)))
 (sr [mv 6 0,c1 7 152 6,mv 2 7,mc 3 0]
 (.ret)))
theorem A.c69:A.F 69=some ⟨8,[.tmp 2,.tmp 3],A.b69⟩:=by kernel_rfl
def A.k69:=@A.kk 69 _ _ _ A.c69 rfl
def A.tE:aq:=sr [bi 9 .lss 8 7]
 (.seq (cd 9
 (.skip)
 (.exit 0))
 (.seq (.block 1 (sr [mv 10 8,mv 6 10]
 (.aM [mv 11 5,mv 12 0,mv 13 6,c2 14 141 12 13,⟨(some 15),.aO 97 1 1 [.aa] [(0,1,(.tmp 14))],none⟩,⟨(some 16),.append 1 24 97 [.aa] (.tmp 11) (.tmp 15),none⟩,mv 5 16])))
 (.aM [bc 17 .add 8 1,mv 8 17])))
def A.b80:aq:=sr [mN 4]
 (sr [mN 5]
 (.seq (sr [mv 7 1,mc 8 0]
 (.block 0 (.loop A.tE)))
 (sr [mv 18 5,mv 4 18]
 (.ret))))
theorem A.c80:A.F 80=some ⟨19,[.tmp 4],A.b80⟩:=by kernel_rfl
def A.k80:=@A.kk 80 _ _ _ A.c80 rfl
def A.sU:aq:=sr [bi 15 .lss 14 13]
 (.seq (cd 15
 (.skip)
 (.exit 0))
 (.seq (.block 1 (sr [mv 16 14,mv 8 16]
 (.aV [mv 17 7,mv 18 8,mv 19 2,mv 20 0,mv 21 8,ia 22 4 20 21,lN 23 4 22,mv 24 1,mv 25 8,ia 26 4 24 25,lN 27 4 26,⟨(some 28),.call (.tmp 19) [(.tmp 23),(.tmp 27)],none⟩,ia 29 4 17 18,⟨none,.store 4 (.tmp 29) (.tmp 28),none⟩] [0,0,0,0,0,24,56,0,0,384,896,2044,4095,8191])))
 (.aM [bc 30 .add 14 1,mv 14 30])))
def A.b89:aq:=sr [mN 6]
 (sr [mv 9 0,ln 10 9,⟨(some 11),.bO 114 4 64 [(.int .i64 0),.aa,(.int .i64 0),.aa] (.tmp 10) (.tmp 10),none⟩,mv 7 11]
 (.seq (sr [mv 12 0,ln 13 12,mc 14 0]
 (.block 0 (.loop A.sU)))
 (sr [mv 31 7,mv 6 31]
 (.ret))))
theorem A.c89:A.F 89=some ⟨32,[.tmp 6],A.b89⟩:=by kernel_rfl
def A.k89:=@A.kk 89 _ _ _ A.c89 rfl
theorem Yg9{f:V}(l:List (List V))(p:Nat->Bool)(hs:Sn 4 h N v l)(hl:l.length<1152921504606846976)(hf:∀(j:Nat) (x:List V),l[j]?=some x->∀h' n',ab h N h' n'->jU A.C f [.agg x] h' n' (fun u _ _=>u=.bool (p j))):Fn A.C 126 [v,f] h N (fun u _ _=>u=.bool (decide (0<=mP p 0 l.length))):=by
 intro w
 rw[aR,A.k126 (by simp)]
 simp[A.b126]
 refine ax (Yli l p hs hl hf) ?_
 rintro v h2 n2 k2 rfl
 simp[aA,k2]
theorem Zyv:decide (0<=mP (fun j=>vJ (l[j]?.getD 0)) 0 l.length)=jS l:=by
 rw[Bool.eq_iff_iff,decide_eq_true_eq,Rv]
 unfold jS
 rw[List.any_eq_true]
 constructor
 ·rintro⟨j,_,h2,h3⟩
  obtain⟨q,hq⟩:=bV (l:=l) (k:=j) (by omega)
  rw[hq]at h3
  exact⟨q,du hq,h3⟩
 ·rintro⟨q,hq,h3⟩
  obtain⟨j,hj⟩:=zC hq
  exact⟨j,tQ _,by have:=mM hj;omega,by rw[hj];exact h3⟩
theorem Zva{h:T O}{N:Nat}{u:V}{l:List Rat}{k:Nat}(hu:nW h N u l)(hP:jm h N)(hl:l.length<1000000000)(hq:∀q∈l,Qb k q)(hk:k<=400000000):Fn A.C 69 [u] h N (fun x h' n'=>(jS l=true/\x=.aZ [.aa,.int .i64 4])\/(jS l=false/\∃v,x=.aZ [v,.int .i64 0]/\pW h' n' v l)):=by
 intro w
 obtain⟨cs,s1,s2,s3⟩:=id hu
 have key:=Yg9 (f:=.func 106 [] []) cs (fun j=>vJ (l[j]?.getD 0)) s1 (by omega) (fun j x hx h' n' eQ=>by
  obtain⟨q,Wa⟩:=bV (l:=l) (k:=j) (by have:=mM hx;omega)
  obtain⟨c,g1,g2⟩:=s3 j q Wa
  rw[hx]at g1
  obtain rfl:x=c:=by simpa using g1
  simp only[Wa,Bb]
  exact Yct (g2.ae eQ).fc (hP.ae eQ) (hq q (du Wa)) (by omega))
 rw[s2,Zyv]at key
 rw[aR,A.k69 (by simp)]
 simp[A.b69]
 refine ax key ?_
 rintro _ h2 n2 k2 rfl
 cases hb:jS l with
 |true=>
  simp[aA]
  exact k2
 |false=>
  simp[]
  refine ax (Yel (k0:=k) (hu.ae k2) (hP.ae k2) hl hq hk) ?_
  rintro v h3 n3 k3 t1
  simp[aA]
  exact⟨k2.trans k3,t1⟩
theorem Yjd{k:Nat}(hu:nW h N u l)(hP:jm h N)(hl:l.length<1000000000)(hq:∀q∈l,Qb k q)(hk:k<=400000000):Fn A.C 69 [u] h N (fun x h' n'=>(jS l=true/\x=.aZ [.aa,.int .i64 4])\/(jS l=false/\∃v,x=.aZ [v,.int .i64 0]/\Tx h' n' v l)):=fun w=>(Zva hu hP hl hq hk w).mono fun x st ⟨a,b,c⟩=>⟨a,b,c.imp id fun ⟨e,v,r,t⟩=>⟨e,v,r,t.1⟩⟩
def ik(N0:Nat)(h:T O)(N:Nat)(v:V)(m:List (List Rat)):Prop:=∃us:List V,Own 1 97 N0 h N v (us.map fun y=>[y])/\(us=[]->v=.aa)/\us.length=m.length/\∀(j:Nat) (l:List Rat),m[j]?=some l->∃u,us[j]?=some u/\fK h N u l
theorem ik.nil{N0:Nat}:ik N0 h N .aa []:=⟨[],Own.nil,fun _=>rfl,rfl,fun j l hl=>by simp at hl⟩
theorem ik.ae{N0:Nat}{h':T O}{N':Nat}(s:ik N0 h N v m)(k:ab h N h' N'):ik N0 h' N' v m:=by
 obtain⟨us,h1,h2,h3,h4⟩:=s
 refine⟨us,h1.ae k,h2,h3,fun j l hl=>?_⟩
 obtain⟨u,g1,g2⟩:=h4 j l hl
 exact⟨u,g1,g2.ae k⟩
theorem ik.ES{N0:Nat}(s:ik N0 h N v m):vE h N v m:=by
 obtain⟨us,h1,h2,h3,h4⟩:=s
 exact⟨us,Sn.one.1 h1.sn,h3,h4⟩
theorem ik.push{N0:Nat}{x:V}{w:List Nat}(s:ik N0 h N v m)(hu:fK h N u l)(hN:N0<=N)(hx:eC ⟨h,N,w⟩ 1 x=some (1,[u]))(hm:m.length<100000):
  ∃v' h' w',jQ ⟨h,N,w⟩ 1 24 97 v x=some (v',⟨h',N+1,w'⟩)/\ad N0 w'=ad N0 w/\ab h N0 h' (N+1)/\ik N0 h' (N+1) v' (m++[l]):=by
 obtain⟨us,h1,h2,h3,h4⟩:=s
 obtain⟨v',h',w',f1,f2,f3,f4,fD,f5⟩:=zy (Y:=NW) (x:=[u]) (u:=x) (bytes:=24) (w:=w) h1 (fun h0=>h2 (List.map_eq_nil_iff.1 h0)) (fun c hc y hy=>by
  obtain⟨z,hz,rfl⟩:=iy.1 hc
  obtain rfl:y=z:=by simpa using hy
  obtain⟨j,hj⟩:=zC hz
  obtain⟨r,hr⟩:=bV (l:=m) (k:=j) (by have:=mM hj;omega)
  obtain⟨u',g1,g2⟩:=h4 j r hr
  rw[hj]at g1
  obtain rfl:y=u':=by simpa using g1
  exact g2.1.form.2.2) hN (by decide) rfl hx (by rw[oa];omega)
 refine⟨v',h',w',f1,f2,f3,us++[u],by simpa using f5,by simp,by simp[h3],fun j r hr=>?_⟩
 by_cases hj:j<m.length
 ·rw[lX hj]at hr
  obtain⟨u',g1,g2⟩:=h4 j r hr
  exact⟨u',by rw[lX (by omega)];exact g1,g2.bY f4 fD (by simp)⟩
 ·rw[pX (by omega)]at hr
  cases hd:j-m.length with
  |zero=>
   rw[hd]at hr
   simp at hr
   subst hr
   exact⟨u,by rw[pX (by omega),h3,hd];rfl,hu.bY f4 fD (by simp)⟩
  |succ d=>rw[hd]at hr;simp at hr
theorem Yfb{n:Nat}(hu:vE h N u m)(vo:m.length<100000)(hm:∀r∈m,r.length=n)(hn:n<1000):Fn A.C 80 [u,.int .i64 n] h N (fun x h' n'=>ik N h' n' x (qo m n)):=by
 intro w
 rw[aR,A.k80 (by simp)]
 simp[A.b80]
 refine bQ [(5,6),(8,17)] (fun e r st=>e=.exit 0/\ad N st.w=[]/\ab h N st.h st.n/\∃x,r.get 5=some x/\ik N st.h st.n x (qo m n)) (fun i r st=>ad N st.w=[]/\ab h N st.h st.n/\∃k x,k+i=n/\r.get 8=some (.int .i64 k)/\r.get 5=some x/\ik N st.h st.n x (qo m k)) n ?_ ?_ ?_
 ·exact⟨by simp,ab.refl,0,.aa,by omega,by simp,by simp,ik.nil⟩
 ·rintro i r ⟨H,n1,W⟩ hr hf ⟨hW,hK,k,x,hk,h8,h5,ho⟩
  simp only at hW hK ho
  rw[bA]
  cases i with
  |zero=>
   obtain rfl:k=n:=by omega
   simp[A.tE,hr,hf,h8,h5,hW,hK]
   exact ho
  |succ i=>
   have aD:k<n:=by omega
   have bm:(k:Int)<(n:Int):=by omega
   simp[A.tE,hr,h8,h5,bm]
   refine ax (Yhc (hu.ae hK) vo hm aD) ?_
   rintro y H2 n2 k2 hy
   have nw:=k2.le
   have eX:=hK.le
   obtain⟨y1,y2,y3⟩:=hy.1.form
   have e4:ag [V.aa] 0 [y]=[y]:=rfl
   have kN:ab H2 n2 (H2.set n2 (.cells [y] 97 true)) (n2+1):=ab.refl.new _
   obtain⟨v',h',w',f1,f2,f3,f5⟩:=(((ho.ae k2).ae kN).push (x:=.slice n2 0 1 (some 1) 1) (l:=sX m k) (w:=W) (hy.ae kN) (by omega) (by simp[eC,St.row,aJ]) (by simp[qo];omega))
   have e7:qo m k++[sX m k]=qo m (k+1):=by simp[qo,List.range_succ]
   rw[e7]at f5
   have b1:V.one y=true:=y1
   simp(disch:=first|(simp;done)|omega|rfl) [-V.cells, -V.one,hf,h8,b1,y2,e4,f1]
   exact⟨i,by omega,by rw[f2];exact hW,((hK.trans k2).trans kN).then f3,k+1,by omega,by simp,f5⟩
 ·rintro _ r ⟨H,n1,W⟩ hr ⟨rfl,hW,hK,x,h5,ho⟩
  simp only at hW hK ho
  simp[h5,aA,hW,hK]
  exact ho
end Go.Mx
