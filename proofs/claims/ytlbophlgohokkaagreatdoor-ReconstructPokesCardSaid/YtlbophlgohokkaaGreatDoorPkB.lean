/-
  reconstruct.checkPokes: its closures.
-/
import Derived.Test.YtlbophlgohokkaaGreatDoorVaB
import Derived.Test.YtlbophlgohokkaaGreatDoorVbA
set_option linter.all false
namespace Go.Mx
open Go Go.Proofs
set_option maxRecDepth 1000000
def A.pv:aq:=sr [bi 9 .lss 8 7]
 (.seq (cd 9
 (.skip)
 (.exit 0))
 (.seq (.block 1 (sr [mv 10 8,mv 5 10]
 (sr [mv 11 1,mv 12 0,mv 13 5,ia 14 3 12 13,lN 15 3 14,⟨(some 16),.call (.tmp 11) [(.tmp 15)],none⟩]
 (cd 16
 (sr [mv 17 5,mv 4 17]
 (.ret))
 (.skip)))))
 (.aM [bc 18 .add 8 1,mv 8 18])))
def A.b247:aq:=sr [mc 4 0]
 (.seq (sr [mv 6 0,ln 7 6,mc 8 0]
 (.block 0 (.loop A.pv)))
 (sr [⟨(some 4),.aY (.const (.int .i64 (-1))),none⟩]
 (.ret)))
theorem A.c247:A.F 247=some ⟨19,[.tmp 4],A.b247⟩:=by kernel_rfl
def A.k247:=@A.kk 247 _ _ _ A.c247 rfl
theorem Ylh{h:T O}{N:Nat}{v f:V}(l:List (List V))(p:Nat->Bool)(hs:Sn 3 h N v l)(hl:l.length<1152921504606846976)(hf:∀(j:Nat) (x:List V),l[j]?=some x->∀h' n',ab h N h' n'->jU A.C f [.agg x] h' n' (fun u _ _=>u=.bool (p j))):Fn A.C 247 [v,f] h N (fun u _ _=>u=.int .i64 (mP p 0 l.length)):=by
 intro w
 have hlen:=hs.len
 rw[aR,A.k247 (by simp)]
 simp[A.b247,hlen]
 refine bQ [(4,5),(8,18)] (fun e r st=>ad N st.w=[]/\ab h N st.h st.n/\((e=.exit 0/\mP p 0 l.length= -1)\/(e=.ret/\r.get 4=some (.int .i64 (mP p 0 l.length))))) (fun m r st=>ad N st.w=[]/\ab h N st.h st.n/\∃k,k+m=l.length/\r.get 8=some (.int .i64 k)/\mP p 0 l.length=mP p k m) l.length ?_ ?_ ?_
 ·exact⟨by simp,ab.refl,0,by omega,by simp,rfl⟩
 ·rintro m r ⟨H,n1,W⟩ hr fI ⟨hW,hK,k,hk,h8,hz⟩
  simp only at hW hK
  rw[bA]
  cases m with
  |zero=>
   have:k=l.length:=by omega
   subst this
   simp only[mP]at hz
   simp[A.pv,hr,fI,h8,hW,hK,hz]
  |succ m=>
   have aD:k<l.length:=by omega
   obtain⟨c,hc⟩:=bV aD
   obtain⟨i,o,cc,e,rw,q1,q2,q3,q4⟩:=hs.at hc
   have q3:=(hK.get _ q2).trans q3
   have cK:(k:Int)<(l.length:Int):=by omega
   simp only[mP]at hz
   simp[A.pv,hr,h8,cK,hlen,q1,q3,q4]
   refine BD (hf k c hc _ _ hK) ?_
   rintro v h2 n2 k2 rfl
   have kk:=hK.trans k2
   cases hp:p k
   ·rw[hp]at hz
    simp(disch:=first|(simp;done)|omega|(simp only[bl,bG,bh];omega)|rfl) [fI,h8,hW,kk]
    exact⟨m,by omega,k+1,by omega,by simp,by simpa using hz⟩
   ·rw[hp]at hz
    simp[fI,hW,kk]
    simpa using hz.symm
 ·rintro e r ⟨H,n1,W⟩ hr ⟨hW,hK,⟨rfl,hz⟩|⟨rfl,h4⟩⟩
  ·simp only at hW hK
   simp[hz,aA,hW,hK]
  ·simp only at hW hK
   simp[h4,aA,hW,hK]
def A.b182:aq:=sr [⟨(some 4),.aY (.const (.bool false)),none⟩]
 (sr [mv 5 0,mv 6 1,c2 7 247 5 6,bc 8 .geq 7 0,mv 4 8]
 (.ret))
theorem A.c182:A.F 182=some ⟨9,[.tmp 4],A.b182⟩:=by kernel_rfl
def A.k182:=@A.kk 182 _ _ _ A.c182 rfl
def A.b178:aq:=sr [mc 2 0]
 (sr [fa 3 0 0,ld 4 3,bc 5 .lss 4 0,mv 6 5,⟨(some 7),.de 0 (.tmp 0),(some (6,false))⟩,⟨(some 8),.load none (.tmp 7),(some (6,false))⟩,⟨(some 9),.load none (.tmp 1),(some (6,false))⟩,⟨(some 10),.bin .geq (.node []) false (.tmp 8) (.tmp 9),(some (6,false))⟩,pt 11 6 10,⟨(some 12),.call (.const (.func 75 [] [])) [(.tmp 11),(.const (.int .i64 10))],none⟩,mv 2 12]
 (.ret))
theorem A.c178:A.F 178=some ⟨13,[.tmp 2],A.b178⟩:=by kernel_rfl
def A.k178:=@A.kk 178 _ _ _ A.c178 rfl
def A.b179:aq:=sr [mc 1 0]
 (sr [fa 2 1 0,ld 3 2,c1 4 151 3,mv 1 4]
 (.ret))
theorem A.c179:A.F 179=some ⟨5,[.tmp 1],A.b179⟩:=by kernel_rfl
def A.k179:=@A.kk 179 _ _ _ A.c179 rfl
def A.b180:aq:=sr [mc 1 0]
 (sr [fa 2 1 0,ld 3 2,⟨(some 4),.bin .eql (.aI .str) true (.tmp 3) (.const (.str [48])),none⟩,⟨(some 5),.call (.const (.func 75 [] [])) [(.tmp 4),(.const (.int .i64 6))],none⟩,mv 1 5]
 (.ret))
theorem A.c180:A.F 180=some ⟨6,[.tmp 1],A.b180⟩:=by kernel_rfl
def A.k180:=@A.kk 180 _ _ _ A.c180 rfl
def A.b181:aq:=sr [mc 2 0]
 (sr [fa 3 2 0,ld 4 3,ld 5 1,c2 6 68 4 5,mv 2 6]
 (.ret))
theorem A.c181:A.F 181=some ⟨7,[.tmp 2],A.b181⟩:=by kernel_rfl
def A.k181:=@A.kk 181 _ _ _ A.c181 rfl
def A.b183:aq:=sr [bx 2 90 0,⟨(some 3),.aY (.const (.bool false)),none⟩]
 (sr [fa 4 0 2,ld 5 4,ld 6 1,⟨(some 7),.bin .eql (.aI .int) false (.tmp 5) (.tmp 6),none⟩,mv 3 7]
 (.ret))
theorem A.c183:A.F 183=some ⟨8,[.tmp 3],A.b183⟩:=by kernel_rfl
def A.k183:=@A.kk 183 _ _ _ A.c183 rfl
theorem Yka{h:T O}{N i:Nat}{w:List Nat}{a0 a1 a2:Int}(hi:i<N):A.C.call (.func 74 [] []) [.slice i 0 3 (some 3) 1] ⟨h.set i (.cells [.int .i64 a0,.int .i64 a1,.int .i64 a2] 27 true),N,w⟩=some (.int .i64 (cn [a0,a1,a2]),⟨h.set i (.cells [.int .i64 a0,.int .i64 a1,.int .i64 a2] 27 true),N,w⟩):=
 Ygn (l:=[a0,a1,a2]) (Sl.row (e:=27) (rw:=true) (cp:=some 3) hi (by simp[dI]) rfl (by simp)) (by simp)
def lF(p:Pk)(S Z:Int):List Int:=[if p.act<0\/Z<=p.act then 10 else 0,((bk p.am:Nat):Int),if p.am=[48] then 6 else 0,if (p.sl.length:Int)=S then cn (p.sl.map fun s=>((bk s:Nat):Int)) else 2]
theorem Yg8{h:T O}{N:Nat}{v f:V}(l:List (List V))(p:Nat->Bool)(hs:Sn 3 h N v l)(hl:l.length<1152921504606846976)(hf:∀(j:Nat) (x:List V),l[j]?=some x->∀h' n',ab h N h' n'->jU A.C f [.agg x] h' n' (fun u _ _=>u=.bool (p j))):Fn A.C 182 [v,f] h N (fun u _ _=>u=.bool (decide (0<=mP p 0 l.length))):=by
 intro w
 rw[aR,A.k182 (by simp)]
 simp[A.b182]
 refine ax (Ylh l p hs hl hf) ?_
 rintro v h2 n2 k2 rfl
 simp[aA,k2]
section
variable {h:T O} {N P B:Nat} {p:Pk} {u:V} {e eB:TypeId} {rw UT:Bool} {z:Int}
theorem Yow(hg:h.get P=some (.cells (ed p u) e rw))(hP:P<N)(hB:h.get B=some (.cells [.int .i64 z] eB UT))(NQ:B<N):jU A.C (.func 178 [] [.ptr P 0,.ptr B 0]) [] h N (fun x _ _=>x=.int .i64 (if p.act<0\/z<=p.act then 10 else 0)):=by
 intro w
 rw[aR,A.k178 (by simp)]
 unfold ed at hg
 by_cases c1:p.act<0
 ·simp[A.b178,hg,c1,Cn,aA]
  exact ab.refl
 ·by_cases c2:z<=p.act
  ·simp[A.b178,hg,hB,c1,c2,Cn,aA]
   exact ab.refl
  ·simp[A.b178,hg,hB,c1,c2,Cn,aA]
   exact ab.refl
theorem Yov(hg:h.get P=some (.cells (ed p u) e rw))(hP:P<N)(hl:p.am.length<=100000):jU A.C (.func 179 [] [.ptr P 0]) [] h N (fun x _ _=>x=.int .i64 ((bk p.am:Nat):Int)):=by
 intro w
 rw[aR,A.k179 (by simp)]
 unfold ed at hg
 simp[A.b179,hg]
 refine ax (Zwl hl) ?_
 rintro _ H2 n2 k2 rfl
 simp[aA]
 exact k2
theorem You(hg:h.get P=some (.cells (ed p u) e rw))(hP:P<N):jU A.C (.func 180 [] [.ptr P 0]) [] h N (fun x _ _=>x=.int .i64 (if p.am=[48] then 6 else 0)):=by
 intro w
 rw[aR,A.k180 (by simp)]
 unfold ed at hg
 by_cases c1:p.am=[48]
 ·simp[A.b180,hg,c1,Cn,aA]
  exact ab.refl
 ·have c2:(p.am==[48])=false:=by simpa using c1
  simp[A.b180,hg,c1,c2,Cn,aA]
  exact ab.refl
theorem Yot{n:Nat}(hg:h.get P=some (.cells (ed p u) e rw))(hP:P<N)(hB:h.get B=some (.cells [.int .i64 n] eB UT))(NQ:B<N)(hu:Sl h N u (strs p.sl))(hl:p.sl.length<100000)(qZ:∀s∈p.sl,s.length<=100000):jU A.C (.func 181 [] [.ptr P 0,.ptr B 0]) [] h N (fun x _ _=>x=.int .i64 (vu p.sl n)):=by
 intro w
 rw[aR,A.k181 (by simp)]
 unfold ed at hg
 simp[A.b181,hg,hB]
 refine ax (Yau hu hl qZ) ?_
 rintro _ H2 n2 k2 rfl
 simp[aA]
 exact k2
theorem Yos{k:Nat}{c:List V}(hc:c=ed p u)(ou:V.one u=true)(hB:h.get B=some (.cells [.int .i64 k] eB UT))(NQ:B<N):jU A.C (.func 183 [] [.ptr B 0]) [.agg c] h N (fun x _ _=>x=.bool (decide (p.act=k))):=by
 intro w
 subst hc
 have jP:(V.agg (ed p u)).cells=ed p u:=rfl
 have hBn:¬B=N:=by omega
 have kB:ab h N (h.set N (.cells (ed p u) 90 true)) (N+1):=ab.refl.new _
 rw[aR,A.k183 (by simp)]
 unfold V.one at ou
 unfold ed at kB ⊢
 simp[A.b183,ou,hB,hBn,aA]
 exact kB
end
variable {a b:List Rat}
set_option maxHeartbeats 2000000
def jl(F:Rat->Rat->Rat)(a b:List Rat)(n:Nat):List Rat:=(List.range n).map fun k=>F (a[k]?.getD 0) (b[k]?.getD 0)
theorem Zu6{F:Rat->Rat->Rat}{n j:Nat}(h:j<n):(jl F a b n)[j]?=some (F (a[j]?.getD 0) (b[j]?.getD 0)):=by
 simp[jl,h]
theorem A7{F:Rat->Rat->Rat}{n:Nat}:(jl F a b n).length=n:=by simp[jl]
structure JnI (F:Rat->Rat->Rat) (h:T O) (N:Nat) (a b:List Rat) (m:Nat) (r:T V) (st:St):Prop where
 w:ad N st.w=[]
 ae:ab h N st.h st.n
 ex:∃(k:Nat) (cs:List (List V)),k+m=a.length/\r.get 14=some (.int .i64 k)/\N<st.n/\st.h.get N=some (.cells (cs.flatten++cN zF m) 114 true)/\cs.length=k/\∀(j:Nat) (q:Rat),j<k->(jl F a b a.length)[j]?=some q->∃c,cs[j]?=some c/\eG st.h st.n c q
theorem Ycd{h:T O}{N:Nat}{u v f:V}(F:Rat->Rat->Rat)(hu:nW h N u a)(hv:nW h N v b)(gT:a.length<=b.length)(hF:∀x∈a,∀y∈b,∀(h':T O) (n':Nat) (ca cb:List V),ab h N h' n'->eG h' n' ca x->eG h' n' cb y->jU A.C f [.agg ca,.agg cb] h' n' (fun z h2 n2=>Fc h2 n2 z (F x y)))(hl:a.length<1000000000):Fn A.C 89 [u,v,f] h N (fun x h' n'=>fK h' n' x (jl F a b a.length)):=by
 intro w
 have l1:=hu.len
 have l2:=hv.len
 have c1:(64:Int)*(a.length:Int)<=140737488355328:=by omega
 have c2:(a.length:Int)<4611686018427387904:=by omega
 have kB:ab h N (h.set N (.cells (cN zF a.length) 114 true)) (N+1):=ab.refl.new _
 rw[aR,A.k89 (by simp)]
 simp[A.b89,l1,c1,c2]
 refine bQ [(8,8),(14,30)] (fun e r st=>e=.exit 0/\JnI F h N a b 0 r st) (JnI F h N a b) a.length ?_ ?_ ?_
 ·exact⟨by simp,kB,0,[],by omega,by simp,by show N<N+1;omega,by rw[T.ai,aF rfl];rfl,rfl,fun j q hj=>by omega⟩
 ·rintro m r ⟨H,n1,W⟩ hr hf ⟨hW,hK,t,cs,ht,mT,sQ,hM,dp,qj⟩
  simp only at hW hK hM sQ qj
  rw[bA]
  cases m with
  |zero=>
   obtain rfl:t=a.length:=by omega
   simp[A.sU,hr,hf,mT]
   exact⟨hW,hK,a.length,cs,by omega,by simp[mT],sQ,hM,dp,qj⟩
  |succ m=>
   have aD:t<a.length:=by omega
   have bm:(t:Int)<(a.length:Int):=by omega
   have jv:t<b.length:=by omega
   have x9:(t:Int)<(b.length:Int):=by omega
   obtain⟨x,hx⟩:=bV aD
   obtain⟨y,hy⟩:=bV jv
   obtain⟨i,o,cc,e,rw,ca,q1,q2,q3,q4,q5⟩:=(hu.ae hK).at hx
   obtain⟨i',o',cc',e',vf,cb,p1,p2,p3,p4,p5⟩:=(hv.ae hK).at hy
   have hi:i<N:=by
    obtain⟨i2,_,_,_,_,_,z1,z2,_⟩:=hu.at hx
    rw[q1]at z1
    simp at z1
    omega
   have g_:i'<N:=by
    obtain⟨i2,_,_,_,_,_,z1,z2,_⟩:=hv.at hy
    rw[p1]at z1
    simp at z1
    omega
   simp[A.sU,hr,mT,l1,l2,bm,x9,q1,q2,q3,q4,p1,p2,p3,p4]
   refine BD (hF x (du hx) y (du hy) _ _ _ _ hK q5 p5) ?_
   rintro _ H2 n2 k2 fI
   obtain⟨c,rfl,hc⟩:=fI.c
   have nw:=k2.le
   have eX:=hK.le
   have sN:=(k2.get N sQ).trans hM
   have UU:∀(j:Nat) (q:Rat),j<cs.length->(jl F a b a.length)[j]?=some q->∃c,cs[j]?=some c/\eG H2 n2 c q:=fun j q hj hq=>by
    obtain⟨c,g1,g2⟩:=qj j q (by omega) hq
    exact⟨c,g1,g2.ae k2⟩
   obtain⟨f1,f2,f3⟩:=UP (l:=jl F a b a.length) (by rw[A7];omega) UU
   have mS:=vk f1
   obtain⟨e1,e2⟩:=hc.len
   have iB:ag (cs.flatten++cN zF (m+1)) (t*4) c=(cs++[c]).flatten++cN zF m:=by
    rw[G6,NM (n:=4) (by rw[mS,dp]) rfl e1,ME,qw]
   have hb4:t*4+4<=(cs.flatten++cN zF (m+1)).length:=by
    rw[fQ,mS,Yhv];omega
   have jP:(V.agg c).cells=c:=rfl
   have Cr:rD (cs.flatten++cN zF (m+1)):=f2.app NN
   have ya:((cs++[c]).flatten++cN zF m).length=(cs.flatten++cN zF (m+1)).length:=by
    rw[G6,ME];simp[e1,zF];omega
   generalize cs.flatten++cN zF (m+1)=X at*
   obtain⟨Y,hY⟩:∃Y,(cs++[c]).flatten++cN zF m=Y:=⟨_,rfl⟩
   rw[hY]at iB ya
   have d1:N<n2:=by omega
   have d2:¬i=N:=by omega
   have d3:¬i'=N:=by omega
   simp(disch:=first|(simp;done)|omega|rfl) [-V.cells, -V.one,hf,mT,sN,bW,jP,e1,e2,hb4,iB]
   have iV:¬N<N:=by omega
   refine⟨m,by omega,⟨by simp[d1,ad,hW],(hK.trans k2).set (aS N),t+1,cs++[c],by omega,by simp,d1,by show T.get _ N=_;rw[T.ai,aF rfl,hY],by simp[dp],fun j q' hj wy=>?_⟩⟩
   by_cases rl:j<t
   ·obtain⟨c',g1,g2⟩:=qj j q' rl wy
    exact⟨c',by rw[lX (by omega)];exact g1,(g2.ae k2).aE sN Cr ya⟩
   ·obtain rfl:j=t:=by omega
    rw[Zu6 aD,hx,hy]at wy
    simp only[Bb,aj]at wy
    subst wy
    exact⟨c,by rw[pX (by omega),dp];simp,hc.aE sN Cr ya⟩
 ·rintro _ r ⟨H,n1,W⟩ hr ⟨rfl,hW,hK,t,cs,ht,mT,sQ,hM,dp,qj⟩
  simp only at hW hK hM sQ qj
  obtain rfl:t=a.length:=by omega
  simp[hr,aA,hW,hK]
  have hz:cN zF 0=[]:=by simp[cN]
  obtain⟨f1,_,_⟩:=UP (l:=jl F a b a.length) (by rw[A7];omega) (fun j q hj hq=>qj j q (by omega) hq)
  have mS:=vk f1
  rw[hz,uT]at hM
  refine⟨⟨cs,.inr ⟨N,0,some a.length,cs.flatten,_,true,by rw[dp],sQ,hM,fun j x hx=>by rw[rT];exact I3 f1 hx,by omega,fun k hk=>by simp at hk;omega⟩,by rw[A7];exact dp,fun j q hq=>qj j q (by have:=mM hq;rw[A7]at this;omega) hq⟩,fun i hi=>?_⟩
  simp[cA]at hi
  subst hi
  exact⟨_,_,hM⟩
variable {l:List a_} {n:Nat}
set_option maxHeartbeats 2000000
def A.b11:aq:=sr [bx 2 22 0,bx 3 23 1,mN 4,mc 5 0]
 (sr [⟨(some 7),.bM 65 [] [(.tmp 2)],none⟩,⟨(some 8),.bM 67 [] [(.tmp 3),(.tmp 2)],none⟩,⟨(some 9),.aO 94 1 2 [.aG,.aG] [(0,1,(.tmp 7)),(1,1,(.tmp 8))],none⟩,c1 10 64 9,mv 6 10]
 (.seq (sr [mv 11 6,ni 12 11 0]
 (cd 12
 (sr [mv 13 6,mN 4,mv 5 13]
 (.ret))
 (.skip)))
 (.seq (.aV [ld 14 2,c1 15 71 14,ld 16 3,c1 17 72 16,c2 18 70 15 17,c1 19 69 18,xt 20 19 0,xt 21 19 1,mv 4 20,mv 5 21] [0,1,0,7,15,31,63,63,255,511])
 (.ret))))
theorem A.c11:A.F 11=some ⟨22,[.tmp 4,.tmp 5],A.b11⟩:=by kernel_rfl
def ql(l:List a_):List Rat:=l.map gg
def FG(m:List (List a_)):List (List Rat):=m.map ql
theorem EL:∀{l:List Int},cn l=0->∀x∈l,x=0
 |[],_,x,hx=>by simp at hx
 |y::l,h,x,hx=>by
  simp only[cn]at h
  split at h
  ·rename_i h0
   rcases kb.1 hx with rfl|hx
   ·exact h0
   ·exact EL h x hx
  ·rename_i h0;exact absurd h h0
def AQ(l:List a_):Prop:=∀s∈l,bk s=0/\s.length<=24
theorem AQ.yt(h:AQ l):(ql l).map aW=l:=by
 unfold ql
 rw[List.map_map]
 conv=>rhs;rw[<-List.map_id l]
 apply Ba
 intro s hs
 exact(FF (h s hs).1).1
theorem AQ.qb(h:AQ l):∀q∈ql l,Qb 100 q:=fun q hq=>by
 obtain⟨s,hs,rfl⟩:=iy.1 hq
 exact SS (h s hs).1 (h s hs).2
theorem AQ.sl{h:T O}{N:Nat}{v:V}(hs:Sl h N v (strs l))(hl:AQ l):Tx h N v (ql l):=by
 unfold Tx tx
 rw[hl.yt]
 exact hs
theorem tH.rat{h:T O}{N:Nat}{v:V}{m:List (List a_)}(hs:tH h N v m)(hm:∀r∈m,AQ r):mJ h N v (FG m):=by
 apply tH.zv
 have:((FG m).map fun l=>l.map aW)=m:=by
  unfold FG
  rw[List.map_map]
  conv=>rhs;rw[<-List.map_id m]
  apply Ba
  intro r hr
  exact(hm r hr).yt
 rw[this]
 exact hs
theorem Zz8(h:nk n l=true):zo l.length n=true:=by
 unfold nk at h
 rw[gW]at h
 exact h.1
structure Lz (m:List (List a_)) (n:Nat):Prop where
 pos:0<m.length
 le:m.length<=6
 n1:0<n
 n6:n<=6
 row:∀r∈m,r.length=n/\AQ r
theorem Lz.rat{m:List (List a_)}(h:Lz m n):∀r∈FG m,r.length=n/\∀q∈r,Qb 100 q:=fun r hr=>by
 obtain⟨s,hs,rfl⟩:=iy.1 hr
 exact⟨by simp[ql,(h.row s hs).1],(h.row s hs).2.qb⟩
theorem G8(h:nk 6 l=true):l.length<100000/\∀s∈l,s.length<=100000:=by
 refine⟨by have:=Yga (Zz8 h) (by omega);omega,fun s hs=>?_⟩
 unfold nk at h
 rw[gW]at h
 have h3:=m8.1 h.2 s hs
 simp[nX]at h3
 omega
def Yrc(e:Int)(l:List Rat)(x:V)(h:T O)(n:Nat):Prop:=(e≠0/\x=.aZ [.aa,.int .i64 e])\/(e=0/\((jS l=true/\x=.aZ [.aa,.int .i64 4])\/(jS l=false/\∃v,x=.aZ [v,.int .i64 0]/\Tx h n v l)))
theorem UW{a b:List Rat}{j k:Nat}(ha:∀q∈a,Qb j q)(hb:∀q∈b,Qb k q)(hj:1<=j)(hk:1<=k)(hn:a.length<=n):Qb (n*(j+k+1)+1) (AO a b):=(NO ha hb hj hk a.length).mono (by have:=jn (j+k+1) hn;omega)
set_option maxHeartbeats 4000000
def A.pw:aq:=sr [bi 43 .lss 42 41]
 (.seq (cd 43
 (.skip)
 (.exit 2))
 (.seq (.block 3 (sr [mv 44 42,⟨(some 11),.alloc [(.int .i64 0)] 3,none⟩,so 11 44]
 (sr [mv 45 0,⟨(some 46),.bM 183 [] [(.tmp 11)],none⟩,c2 47 182 45 46,⟨(some 48),.un .not (.tmp 47),none⟩]
 (cd 48
 (sr [mc 6 7]
 (.ret))
 (.skip)))))
 (.aM [bc 49 .add 42 1,mv 42 49])))
def A.px:aq:=sr [bi 28 .lss 27 26]
 (.seq (cd 28
 (.skip)
 (.exit 0))
 (.seq (.block 1 (sr [ia 29 3 25 27,lN 30 3 29,⟨(some 9),.alloc [(.int .i64 0),(.str []),.aa] 90,none⟩,⟨none,.store 3 (.tmp 9) (.tmp 30),none⟩]
 (sr [⟨(some 31),.bM 178 [] [(.tmp 9),(.tmp 5)],none⟩,⟨(some 32),.bM 179 [] [(.tmp 9)],none⟩,⟨(some 33),.bM 180 [] [(.tmp 9)],none⟩,⟨(some 34),.bM 181 [] [(.tmp 9),(.tmp 4)],none⟩,⟨(some 35),.aO 94 1 4 [.aG,.aG,.aG,.aG] [(0,1,(.tmp 31)),(1,1,(.tmp 32)),(2,1,(.tmp 33)),(3,1,(.tmp 34))],none⟩,c1 36 64 35,mv 10 36]
 (sr [mv 37 10,ni 38 37 0]
 (cd 38
 (sr [mv 39 10,mv 6 39]
 (.ret))
 (.skip))))))
 (.aM [bc 40 .add 27 1,mv 27 40])))
def A.b114:aq:=sr [bx 4 3 1,bx 5 3 2,mc 6 0]
 (.seq (.seq (.aV [ld 12 4,⟨(some 13),.call (.const (.func 177 [] [])) [(.tmp 12),(.const (.int .i64 1)),(.const (.int .i64 64))],none⟩,ld 14 5,⟨(some 15),.call (.const (.func 177 [] [])) [(.tmp 14),(.const (.int .i64 1)),(.const (.int .i64 16))],none⟩,mv 16 0,ln 17 16,bc 18 .gtr 17 256,⟨(some 19),.call (.const (.func 75 [] [])) [(.tmp 18),(.const (.int .i64 5))],none⟩,⟨(some 20),.aO 27 1 3 [(.int .i64 0),(.int .i64 0),(.int .i64 0)] [(0,1,(.tmp 13)),(1,1,(.tmp 15)),(2,1,(.tmp 19))],none⟩,c1 21 74 20,mv 7 21] [0,1,0,7,0,16,48,127,255,511,1023])
 (sr [mv 22 7,ni 23 22 0]
 (cd 23
 (sr [mv 24 7,mv 6 24]
 (.ret))
 (.skip))))
 (.seq (sr [mv 25 0,ln 26 25,mc 27 0]
 (.block 0 (.loop A.px)))
 (.seq (sr [ld 41 5,mc 42 0]
 (.block 2 (.loop A.pw)))
 (sr [mc 6 0]
 (.ret)))))
theorem A.c114:A.F 114=some ⟨50,[.tmp 6],A.b114⟩:=by kernel_rfl
def A.k114:=@A.kk 114 _ _ _ A.c114 rfl
def py(l:List Pk)(k:Nat):Bool:=l.any fun p=>decide (p.act=(k:Int))
def Kb(l:List Pk)(k j:Nat):Bool:=match l[j]? with
 |some p=>decide (p.act=(k:Int))
 |none=>false
theorem Zyu{l:List Pk}{k:Nat}:decide (0<=mP (Kb l k) 0 l.length)=py l k:=by
 rw[Bool.eq_iff_iff,decide_eq_true_eq,Rv]
 unfold py
 rw[List.any_eq_true]
 constructor
 ·rintro⟨j,_,h2,h3⟩
  obtain⟨p,hp⟩:=bV (l:=l) (k:=j) (by omega)
  unfold Kb at h3
  rw[hp]at h3
  exact⟨p,du hp,h3⟩
 ·rintro⟨p,hp,h3⟩
  obtain⟨j,hj⟩:=zC hp
  exact⟨j,tQ _,by have:=mM hj;omega,by unfold Kb;rw[hj];exact h3⟩
def G9(l:List Pk)(S Z:Int):Int:=cn [if S<1\/64<S then 3 else 0,if Z<1\/16<Z then 3 else 0,if 256<l.length then 5 else 0]
def sV(l:List Pk)(S Z:Int):Int:=if G9 l S Z=0 then (if cn (l.map fun p=>cn (lF p S Z))=0 then (if (List.range Z.toNat).all (py l)=true then 0 else 7) else cn (l.map fun p=>cn (lF p S Z))) else G9 l S Z
theorem Zka{h:T O}{N:Nat}{v:V}{l:List Pk}{S Z:Int}(hs:nY h N v l)(hl:l.length<100000)(hx:∀p∈l,p.am.length<=100000/\p.sl.length<100000/\∀s∈p.sl,s.length<=100000):Fn A.C 114 [v,.int .i64 S,.int .i64 Z] h N (fun u _ _=>u=.int .i64 (sV l S Z)):=by
 intro w
 have lg:=hs.len
 have kB:ab h N ((h.set N (.cells [.int .i64 S] 3 true)).set (N+1) (.cells [.int .i64 Z] 3 true)) (N+1+1):=(ab.refl.new _).new _
 have b1:((h.set N (.cells [.int .i64 S] 3 true)).set (N+1) (.cells [.int .i64 Z] 3 true)).get N=some (.cells [.int .i64 S] 3 true):=by rw[T.ai,au (by omega),T.ai,aF rfl]
 have b2:((h.set N (.cells [.int .i64 S] 3 true)).set (N+1) (.cells [.int .i64 Z] 3 true)).get (N+1)=some (.cells [.int .i64 Z] 3 true):=by rw[T.ai,aF rfl]
 have Kc:((256:Int)<(l.length:Int))=(256<l.length):=by apply propext;omega
 rw[aR,A.k114 (by simp)]
 simp[A.b114,lg,Zzr,Cn,Kc,ag,Yka]
 generalize (h.set N (.cells [.int .i64 S] 3 true)).set (N+1) (.cells [.int .i64 Z] 3 true)=G at*
 have kD:ab G (N+1+1) (G.set (N+1+1) (.cells [.int .i64 (if S<1\/64<S then 3 else 0),.int .i64 (if Z<1\/16<Z then 3 else 0),.int .i64 (if 256<l.length then 5 else 0)] 27 true)) (N+1+1+1):=ab.refl.new _
 have b1':=(kD.get N (by omega)).trans b1
 have b2':=(kD.get (N+1) (by omega)).trans b2
 have kE:=kB.trans kD
 generalize G.set (N+1+1) (.cells [.int .i64 (if S<1\/64<S then 3 else 0),.int .i64 (if Z<1\/16<Z then 3 else 0),.int .i64 (if 256<l.length then 5 else 0)] 27 true)=G2 at*
 unfold sV G9
 by_cases hz:cn [if S<1\/64<S then 3 else 0,if Z<1\/16<Z then 3 else 0,if 256<l.length then 5 else 0]=0
 ·have z1:=EL hz (if S<1\/64<S then 3 else 0) (by simp)
  have z2:=EL hz (if Z<1\/16<Z then 3 else 0) (by simp)
  have z1':1<=S/\S<=64:=by split at z1<;>omega
  have z2':1<=Z/\Z<=16:=by split at z2<;>omega
  obtain⟨s,rfl⟩:∃s:Nat,S=s:=⟨S.toNat,by omega⟩
  obtain⟨z,rfl⟩:∃z:Nat,Z=z:=⟨Z.toNat,by omega⟩
  have jY:=hs.ae kE
  have kG:ab h N G2 (N+1+1+1):=kE
  simp[hz,lg]
  refine bQ [(6,6),(9,10),(27,40)] (fun e r st=>ad N st.w=[]/\ab G2 (N+1+1+1) st.h st.n/\((e=.exit 0/\cn (l.map fun p=>cn (lF p s z))=0)\/(e=.ret/\cn (l.map fun p=>cn (lF p s z))≠0/\r.get 6=some (.int .i64 (cn (l.map fun p=>cn (lF p s z))))))) (fun m r st=>ad N st.w=[]/\ab G2 (N+1+1+1) st.h st.n/\∃k,k+m=l.length/\r.get 27=some (.int .i64 k)/\cn (l.map fun p=>cn (lF p s z))=cn ((l.drop k).map fun p=>cn (lF p s z))) l.length ?_ ?_ ?_
  ·exact⟨by simp,ab.refl,0,by omega,by simp,by simp⟩
  ·rintro m r ⟨H,n,W⟩ hr hf ⟨hW,hK,k,hk,EM,cX⟩
   simp only at hW hK
   have le:=hK.le
   rw[bA]
   cases m with
   |zero=>
    obtain rfl:k=l.length:=by omega
    rw[og,vP,cn]at cX
    simp[A.px,hr,hf,EM,cX,hW,hK]
   |succ m=>
    have aD:k<l.length:=by omega
    have bm:(k:Int)<(l.length:Int):=by omega
    obtain⟨p,hp⟩:=bV aD
    obtain⟨x1,x2,x3⟩:=hx p (du hp)
    obtain⟨i,o,y,e,rw,u,q1,q2,q3,q4,q5,q6,q7,q8⟩:=(jY.ae hK).at hp
    rw[ke hp,kg,cn]at cX
    have ou:V.one u=true:=q8.form.one
    have jP:(V.agg (ed p u)).cells=ed p u:=rfl
    have cl:(ed p u).length=3:=rfl
    have c2:(ed p u).all V.one=true:=by simp[ed, -V.one,ou];exact⟨rfl,rfl⟩
    have e3:∀z:List V,z.length=3->ag [V.int .i64 0,.str [],.aa] 0 z=z:=fun z hz=>by unfold ag;rw[hz];simp
    have vw:∀a:V,ag [V.aG,.aG,.aG,.aG] 0 [a]=[a,.aG,.aG,.aG]:=fun _=>rfl
    have sp2:∀a b:V,ag [a,V.aG,.aG,.aG] 1 [b]=[a,b,.aG,.aG]:=fun _ _=>rfl
    have sp3:∀a b c:V,ag [a,b,V.aG,.aG] 2 [c]=[a,b,c,.aG]:=fun _ _ _=>rfl
    have sp4:∀a b c d:V,ag [a,b,c,V.aG] 3 [d]=[a,b,c,d]:=fun _ _ _ _=>rfl
    have fo:∀f a c,V.one (.func f a c)=true:=fun _ _ _=>rfl
    have fc:∀f a c,V.cells (.func f a c)=[.func f a c]:=fun _ _ _=>rfl
    simp[-V.cells, -V.one,fo,fc,A.px,hr,EM,bm,lg,jP,cl,c2,e3,q1,q3,q4,bW,vw,sp2,sp3,sp4]
    have kF:ab H n (((H.set n (.cells [.int .i64 0,.str [],.aa] 90 true)).set n (.cells (ed p u) 90 true)).set (n+1) (.cells [.func 178 [] [.ptr n 0,.ptr (N+1) 0],.func 179 [] [.ptr n 0],.func 180 [] [.ptr n 0],.func 181 [] [.ptr n 0,.ptr N 0]] 94 true)) (n+1+1):=((ab.refl.new _).set (aS _)).new _
    have gP:(((H.set n (.cells [.int .i64 0,.str [],.aa] 90 true)).set n (.cells (ed p u) 90 true)).set (n+1) (.cells [.func 178 [] [.ptr n 0,.ptr (N+1) 0],.func 179 [] [.ptr n 0],.func 180 [] [.ptr n 0],.func 181 [] [.ptr n 0,.ptr N 0]] 94 true)).get n=some (.cells (ed p u) 90 true):=by rw[T.ai,au (by omega),T.ai,aF rfl]
    have gF:(((H.set n (.cells [.int .i64 0,.str [],.aa] 90 true)).set n (.cells (ed p u) 90 true)).set (n+1) (.cells [.func 178 [] [.ptr n 0,.ptr (N+1) 0],.func 179 [] [.ptr n 0],.func 180 [] [.ptr n 0],.func 181 [] [.ptr n 0,.ptr N 0]] 94 true)).get (n+1)=some (.cells [.func 178 [] [.ptr n 0,.ptr (N+1) 0],.func 179 [] [.ptr n 0],.func 180 [] [.ptr n 0],.func 181 [] [.ptr n 0,.ptr N 0]] 94 true):=by rw[T.ai,aF rfl]
    generalize ((H.set n (.cells [.int .i64 0,.str [],.aa] 90 true)).set n (.cells (ed p u) 90 true)).set (n+1) (.cells [.func 178 [] [.ptr n 0,.ptr (N+1) 0],.func 179 [] [.ptr n 0],.func 180 [] [.ptr n 0],.func 181 [] [.ptr n 0,.ptr N 0]] 94 true)=G4 at*
    have g1:=(kF.get N (by omega)).trans ((hK.get N (by omega)).trans b1')
    have g2:=(kF.get (N+1) (by omega)).trans ((hK.get (N+1) (by omega)).trans b2')
    refine ax (Yhl (l:=lF p s z) (Sl.row (by omega) gF rfl fun k hk=>by simp at hk;omega) rfl (by simp[lF]) fun j f e' hj he fi h' n' eQ=>?_) ?_
    ·have d1:n<n':=by have:=eQ.le;omega
     have dP:=(eQ.get n (by omega)).trans gP
     have dN:=(eQ.get N (by omega)).trans g1
     have dZ:=(eQ.get (N+1) (by omega)).trans g2
     have d2:N<n':=by omega
     have d3:N+1<n':=by omega
     rcases j with _|_|_|_|j
     ·simp[lF]at hj he
      subst hj;subst he
      exact Yow dP d1 dZ d3
     ·simp[lF]at hj he
      subst hj;subst he
      exact Yov dP d1 x1
     ·simp[lF]at hj he
      subst hj;subst he
      exact You dP d1
     ·simp[lF]at hj he
      subst hj;subst he
      have:=Yot dP d1 dN d2 (q8.ae ((kF.trans eQ))) x2 x3
      unfold vu at this
      exact this
     ·simp at hj
    rintro _ H5 n5 k5 rfl
    have kk:=(hK.trans kF).trans k5
    by_cases h0:cn (lF p s z)=0
    ·rw[aF h0]at cX
     simp(disch:=first|(simp;done)|omega|(simp only[bl,bG,bh];omega)|rfl) [hf,EM,h0,hW]
     exact⟨m,by omega,by omega,kk,k+1,by omega,by simp,by simpa using cX⟩
    ·rw[au h0]at cX
     simp[hf,h0,hW,cX]
     exact⟨by omega,kk⟩
  ·rintro e r ⟨H,n,W⟩ hr ⟨hW,hK,⟨rfl,cX⟩|⟨rfl,cX,h6⟩⟩
   ·simp only at hW hK
    have gZ:=(hK.get (N+1) (by omega)).trans b2'
    have lZ:N+1<n:=by have:=hK.le;omega
    simp[hr,cX,gZ]
    have kA:=kG.trans hK
    have leA:=kA.le
    obtain⟨cs,s1,s2,s3⟩:=hs.ae kA
    refine bQ [(6,6),(11,11),(42,49)] (fun e r st=>ad N st.w=[]/\ab H n st.h st.n/\((e=.exit 2/\∀x,x<z->py l x=true)\/(e=.ret/\(¬∀x,x<z->py l x=true)/\r.get 6=some (.int .i64 7)))) (fun i r st=>ad N st.w=[]/\ab H n st.h st.n/\∃k,k+i=z/\r.get 42=some (.int .i64 k)/\∀x,x<k->py l x=true) z ?_ ?_ ?_
    ·exact⟨hW,ab.refl,0,by omega,by simp,fun x hx=>by omega⟩
    ·rintro i r3 ⟨H3,n3,W3⟩ uz EN ⟨mU,qm,k,hk,UX,fi⟩
     simp only at mU qm
     have zp:=qm.le
     rw[bA]
     cases i with
     |zero=>
      obtain rfl:k=z:=by omega
      simp[A.pw,uz,EN,UX,mU,qm]
      exact fi
     |succ i=>
      have aD:k<z:=by omega
      have bm:(k:Int)<(z:Int):=by omega
      have kB3:ab H3 n3 ((H3.set n3 (.cells [.int .i64 0] 3 true)).set n3 (.cells [.int .i64 k] 3 true)) (n3+1):=(ab.refl.new _).set (aS _)
      have Kd:((H3.set n3 (.cells [.int .i64 0] 3 true)).set n3 (.cells [.int .i64 k] 3 true)).get n3=some (.cells [.int .i64 k] 3 true):=by rw[T.ai,aF rfl]
      simp[A.pw,uz,hr,UX,bm,bW,ag]
      generalize (H3.set n3 (.cells [.int .i64 0] 3 true)).set n3 (.cells [.int .i64 k] 3 true)=G5 at*
      have kC:=qm.trans kB3
      refine ax (Yg8 (f:=.func 183 [] [.ptr n3 0]) cs (Kb l k) (s1.ae kC) (by omega) fun j x hx h' n' eQ=>?_) ?_
      ·obtain⟨p,hp⟩:=bV (l:=l) (k:=j) (by have:=mM hx;omega)
       obtain⟨u,a1,a2⟩:=s3 j p hp
       rw[hx]at a1
       simp only[aj]at a1
       unfold Kb
       rw[hp]
       exact Yos a1 a2.form.one ((eQ.get n3 (by omega)).trans Kd) (by have:=eQ.le;omega)
      rintro _ H6 n6 k6 rfl
      rw[s2,Zyu]
      have kk:=kC.trans k6
      have Ke:¬n3<N:=by omega
      cases hb:py l k with
      |true=>
       simp(disch:=first|(simp;done)|omega|(simp only[bl,bG,bh];omega)|rfl) [EN,UX,mU,Ke]
       exact⟨i,by omega,kk,k+1,by omega,by simp,fun x hx=>by
        by_cases e:x=k
        ·rw[e];exact hb
        ·exact fi x (by omega)⟩
      |false=>
       simp[EN,mU,Ke]
       exact⟨kk,k,aD,hb⟩
    ·rintro e r3 ⟨H3,n3,W3⟩ uz ⟨mU,qm,⟨rfl,fi⟩|⟨rfl,fi,h6⟩⟩
     ·simp only at mU qm
      simp[aA,mU]
      exact⟨kA.trans qm,fi⟩
     ·simp only at mU qm
      simp[h6,aA,mU]
      simp only[Classical.not_forall,Bool.not_eq_true]at fi
      obtain⟨x,hx,hb⟩:=fi
      exact⟨kA.trans qm,x,hx,hb⟩
   ·simp only at hW hK
    simp[h6,aA,hW,cX]
    exact kG.trans hK
 ·simp[hz,aA]
  exact kE
variable {M N i:Nat} {h:T O} {k:Int} {m:List (List Rat)} {o o0:O} {u v:V} {w:List Nat}
def rE(ks:List (Int×V)):List (V×V):=ks.map fun p=>(.int .i64 p.1,p.2)
def mY(k:Int):List (Int×V)->Nat->Option (Nat×V)
 |[],_=>none
 |(a,v)::t,i=>if k=a then some (i,v) else mY k t (i+1)
def wz(k:Int)(v:V):List (Int×V)->List (Int×V)
 |[]=>[(k,v)]
 |(a,x)::t=>if k=a then (k,v)::t else (a,x)::wz k v t
def wA(ks:List (Int×V))(k:Int):V:=match mY k ks 0 with
 |some (_,v)=>v
 |none=>.aa
theorem UY{k:Int}:∀{ks:List (Int×V)} {i:Nat},dV (.int .i64) (.int .i64 k) (rE ks) i=some (mY k ks i)
 |[],i=>rfl
 |(a,v)::t,i=>by
  have ih:=UY (k:=k) (ks:=t) (i:=i+1)
  unfold rE at ih ⊢
  rw[kg]
  unfold dV
  have he:FZ (.int .i64) (.int .i64 k) (.int .i64 a)=some (k==a):=by simp[FZ]
  simp only[he]
  unfold mY
  by_cases e:k=a
  ·subst e;simp
  ·have:(k==a)=false:=by simpa using e
   rw[this,au e]
   exact ih
theorem Ha{k:Int}:∀{ks:List (Int×V)} {i:Nat},mY k ks i=(mY k ks 0).map fun p=>(p.1+i,p.2)
 |[],i=>rfl
 |(a,v)::t,i=>by
  unfold mY
  by_cases e:k=a
  ·simp[e]
  ·rw[au e,au e,Ha (k:=k) (ks:=t) (i:=i+1),Ha (k:=k) (ks:=t) (i:=0+1),Option.map_map]
   congr 1
   funext p
   simp
   omega
theorem Zq1{k:Int}{v:V}:∀{ks:List (Int×V)} {j:Nat} {x:V},mY k ks 0=some (j,x)->(rE ks).set j (.int .i64 k,v)=rE (wz k v ks)
 |[],j,x,h=>by cases h
 |(a,y)::t,j,x,h=>by
  unfold mY at h
  unfold wz
  by_cases e:k=a
  ·subst e
   rw[aF rfl]at h ⊢
   simp at h
   obtain⟨rfl,_⟩:=h
   rfl
  ·rw[au e]at h ⊢
   rw[Ha]at h
   cases hf:mY k t 0 with
   |none=>rw[hf]at h;cases h
   |some p=>
    obtain⟨j',x'⟩:=p
    rw[hf]at h
    simp at h
    obtain⟨rfl,rfl⟩:=h
    have ih:=Zq1 (v:=v) hf
    unfold rE at ih ⊢
    simp only[kg,List.set_cons_succ,ih]
theorem Zq2{k:Int}{v:V}:∀{ks:List (Int×V)},mY k ks 0=none->rE ks++[(.int .i64 k,v)]=rE (wz k v ks)
 |[],h=>rfl
 |(a,y)::t,h=>by
  unfold mY at h
  unfold wz
  by_cases e:k=a
  ·rw[aF e]at h;cases h
  ·rw[au e]at h ⊢
   rw[Ha]at h
   have hf:mY k t 0=none:=by simpa using h
   have ih:=Zq2 (v:=v) hf
   unfold rE at ih ⊢
   simp only[kg,yE,ih]
theorem UZ{k k':Int}{v:V}:∀{ks:List (Int×V)},wA (wz k v ks) k'=if k'=k then v else wA ks k'
 |[]=>by
  unfold wz wA mY
  by_cases e:k'=k
  ·simp[e]
  ·simp[e,mY]
 |(a,x)::t=>by
  have ih:=UZ (k:=k) (k':=k') (v:=v) (ks:=t)
  unfold wA at ih ⊢
  unfold wz
  by_cases e:k=a
  ·subst e
   rw[aF rfl]
   unfold mY
   by_cases e2:k'=k
   ·simp[e2]
   ·rw[au e2,au e2,au e2]
  ·rw[au e]
   unfold mY
   by_cases e2:k'=a
   ·have:k'≠k:=fun hc=>e (by rw[<-hc,e2])
    simp[e2]
    intro hc
    exact absurd hc.symm e
   ·rw[au e2,au e2,Ha,Ha (k:=k') (ks:=t) (i:=0+1)]
    cases h1:mY k' (wz k v t) 0<;>cases h2:mY k' t 0<;>rw[h1,h2]at ih<;>simpa using ih
theorem Yke{z bytes:Nat}{e:TypeId}{N0:Nat}{v':V}{l:List (List V)}{x:List V}{st:St}(s:Own z e N0 h N v l)(hz:0<z)(hx:x.length=z)(hu:eC ⟨h,N,w⟩ z u=some (1,x))(ha:jQ ⟨h,N,w⟩ z bytes e v u=some (v',st)):cA v'=[N]/\st.w=cA v++w:=by
 have eM:¬(1:Nat)=0:=by decide
 unfold jQ at ha
 rw[hu]at ha
 obtain⟨hl,⟨_,rfl⟩|⟨i,rfl,h2,h3,h4⟩⟩:=s
 ·simp only[eM,if_false]at ha
  split at ha
  ·simp at ha
   rw[<-ha.1,<-ha.2]
   exact⟨rfl,rfl⟩
  ·cases ha
 ·have mS:=vk hl
  simp only[eM,if_false,St.row,h4]at ha
  split at ha
  ·cases ha
  ·rw[aF trivial,au (by rw[mS,rT,iE];omega)]at ha
   split at ha
   ·simp at ha
    rw[<-ha.1,<-ha.2]
    exact⟨rfl,rfl⟩
   ·cases ha
theorem ik.Kg{N0:Nat}{x:V}{l:List Rat}(s:ik N0 h N v m)(hu:fK h N u l)(hN:N0<=N)(hx:eC ⟨h,N,w⟩ 1 x=some (1,[u]))(hm:m.length<100000):
  ∃v' h' w',jQ ⟨h,N,w⟩ 1 24 97 v x=some (v',⟨h',N+1,w'⟩)/\ad N0 w'=ad N0 w/\ab h N0 h' (N+1)/\ik N0 h' (N+1) v' (m++[l])/\cA v'=[N]/\ff (fun i=>i∈cA v) h N h' (N+1)/\nz 97 NW h v/\w'=cA v++w:=by
 obtain⟨v',h',w',f1,f2,f3,f4⟩:=s.push hu hN hx hm
 obtain⟨us,h1,h2,h3,h4⟩:=s
 obtain⟨v1,gh,w1,g1,g2,g3,g4,gD,g5⟩:=zy (Y:=NW) (x:=[u]) (u:=x) (bytes:=24) (w:=w) h1 (fun h0=>h2 (List.map_eq_nil_iff.1 h0)) (fun c hc y hy=>by
  obtain⟨z,hz,rfl⟩:=iy.1 hc
  obtain rfl:y=z:=by simpa using hy
  obtain⟨j,hj⟩:=zC hz
  obtain⟨r,hr⟩:=bV (l:=m) (k:=j) (by have:=mM hj;omega)
  obtain⟨u',a1,a2⟩:=h4 j r hr
  rw[hj]at a1
  obtain rfl:y=u':=by simpa using a1
  exact a2.1.form.2.2) hN (by decide) rfl hx (by rw[oa];omega)
 have hr:=Yke (bytes:=24) h1 (by decide) rfl hx f1
 rw[f1]at g1
 simp only[aj,bq,St.mk.injEq,true_and]at g1
 obtain⟨rfl,rfl,rfl⟩:=g1
 exact⟨v',h',w',f1,f2,f3,f4,hr.1,g4,gD,hr.2⟩
theorem ik.EO{N0:Nat}{h':T O}{N':Nat}{v':V}(s:ik N0 h N v' m)(k:ff (fun i=>i∈cA v) h N h' N')(hd:nz 97 NW h v)(bJ:∀i∈cA v',i∉cA v):ik N0 h' N' v' m:=by
 obtain⟨us,⟨hl,h1⟩,h2,h3,h4⟩:=s
 refine⟨us,⟨hl,?_⟩,h2,h3,fun j l hl=>?_⟩
 ·rcases h1 with h1|⟨i,a,b,c,d⟩
  ·exact .inl h1
  ·exact .inr ⟨i,a,b,eY c k.le,(k.get i c (bJ i (by rw[a];simp[cA]))).trans d⟩
 ·obtain⟨u,g1,g2⟩:=h4 j l hl
  exact⟨u,g1,g2.bY k hd (by decide)⟩
def NR(o:O):Prop:=∀c e w,o≠.cells c e w
theorem Sl.vz{l:List V}(s:Sl h N v l)(g:h.get i=some o0)(ho:NR o0):Sl (h.set i o) N v l:=s.bY (D:=fun j=>j=i) ⟨aS _,fun j _ hj=>by rw[T.ai,au hj]⟩ fun j hj hc=>by
 subst hc
 rcases s with⟨_,rfl|rfl⟩|⟨j',o',cp,c,e,rw,rfl,_,h3,_⟩
 ·simp[cA]at hj
 ·simp[cA]at hj
 ·simp[cA]at hj
  subst hj
  rw[g]at h3
  exact absurd (p_ h3) (ho _ _ _)
theorem fK.vz{l:List Rat}(s:fK h N v l)(g:h.get i=some o0)(ho:NR o0):fK (h.set i o) N v l:=by
 obtain⟨⟨cs,h1,h2,h3⟩,h4⟩:=s
 have bJ:∀j∈cA v,¬j=i:=fun j hj hc=>by
  obtain⟨z,w,hz⟩:=h4 j hj
  rw[hc,g]at hz
  exact absurd (p_ hz) (ho _ _ _)
 have hI:∀{x:V} {z:Int},In h N x z->In (h.set i o) N x z:=fun s=>by
  rcases s with s|⟨i,o,l,c,s1,s2,s3⟩
  ·exact .inl s
  ·exact .inr ⟨i,o,l,c,s1,Sl.vz s2 g ho,s3⟩
 refine⟨⟨cs,h1.bY (D:=fun j=>j=i) ⟨aS _,fun j _ hj=>by rw[T.ai,au hj]⟩ bJ,h2,fun j q hq=>?_⟩,fun j hj=>by rw[T.ai,au (bJ j hj)];exact h4 j hj⟩
 obtain⟨c,a,n1,u1,n2,u2,e,s1,s2⟩:=h3 j q hq
 exact⟨c,a,n1,u1,n2,u2,e,hI s1,hI s2⟩
theorem ik.vz{N0:Nat}(s:ik N0 h N v m)(g:h.get i=some o0)(ho:NR o0):ik N0 (h.set i o) N v m:=by
 obtain⟨us,⟨hl,h1⟩,h2,h3,h4⟩:=s
 refine⟨us,⟨hl,?_⟩,h2,h3,fun j l hl=>?_⟩
 ·rcases h1 with h1|⟨j,a,b,c,d⟩
  ·exact .inl h1
  ·refine .inr ⟨j,a,b,c,?_⟩
   rw[T.ai,au]
   ·exact d
   ·rintro rfl
    rw[g]at d
    exact absurd (p_ d) (ho _ _ _)
 ·obtain⟨u,g1,g2⟩:=h4 j l hl
  exact⟨u,g1,g2.vz g ho⟩
theorem ik.row{N0:Nat}(s:ik N0 h N v m):∀i∈cA v,N0<=i/\i<N:=fun i hi=>by
 obtain⟨us,⟨hl,⟨_,rfl⟩|⟨j,rfl,b,c,d⟩⟩,_⟩:=s
 ·simp[cA]at hi
 ·simp[cA]at hi
  omega
def cO(l:List Pk)(k:Int):List (List Rat):=(l.filter fun p=>decide (p.act=k)).map fun p=>(ql p.sl).map fun x=>x/gg p.am
theorem Zq8{l:List Pk}{p:Pk}:cO (l++[p]) k=cO l k++if p.act=k then [(ql p.sl).map fun x=>x/gg p.am] else []:=by
 unfold cO
 rw[List.filter_append,List.map_append,List.filter_cons]
 by_cases e:p.act=k<;>simp[e]
theorem AR{l:List Pk}:(cO l k).length<=l.length:=by
 unfold cO
 rw[oa]
 exact List.length_filter_le _ _
structure vA (h:T O) (N0 N M:Nat) (ks:List (Int×V)) (l:List Pk):Prop where
 map:h.get M=some (.map (rE ks))
 lt:M<N0
 le:N0<=N
 yb:∀k,ik N0 h N (wA ks k) (cO l k)
 dj:∀k k',k≠k'->∀i∈cA (wA ks k),i∉cA (wA ks k')
theorem vA.ae{h':T O}{N0 N':Nat}{ks:List (Int×V)}{l:List Pk}(s:vA h N0 N M ks l)(k:ab h N h' N'):vA h' N0 N' M ks l:=⟨(k.get M (eY s.lt s.le)).trans s.map,s.lt,p9 s.le k.le,fun j=>(s.yb j).ae k,s.dj⟩
theorem vA.nil{N0:Nat}(g:h.get M=some (.map []))(hM:M<N0)(hN:N0<=N):vA h N0 N M [] []:=⟨g,hM,hN,fun k=>ik.nil,fun k k' _ i hi=>by simp[wA,mY,cA]at hi⟩
theorem vA.push{N0:Nat}{ks:List (Int×V)}{l:List Pk}{p:Pk}{x:V}(s:vA h N0 N M ks l)(hu:fK h N u ((ql p.sl).map fun x=>x/gg p.am))(hx:eC ⟨h,N,w⟩ 1 x=some (1,[u]))(hm:l.length<100000):
  ∃v' h' w',jQ ⟨h,N,w⟩ 1 24 97 (wA ks p.act) x=some (v',⟨h',N+1,w'⟩)/\ad N0 w'=ad N0 w/\ab h N0 h' (N+1)/\h'.get M=some (.map (rE ks))/\vA (h'.set M (.map (rE (wz p.act v' ks)))) N0 (N+1) M (wz p.act v' ks) (l++[p])/\w'=cA (wA ks p.act)++w:=by
 obtain⟨v',h',w',f1,f2,f3,f4,f5,f6,f7,f8⟩:=(s.yb p.act).Kg hu s.le hx (by have:=AR (l:=l) (k:=p.act);omega)
 have gM:h'.get M=some (.map (rE ks)):=(f3.get M s.lt).trans s.map
 have hn:NR (.map (rE ks)):=fun _ _ _ hc=>by cases hc
 refine⟨v',h',w',f1,f2,f3,gM,⟨by rw[T.ai,aF rfl],s.lt,Nat.le_succ_of_le s.le,fun k=>?_,fun k k' hk i hi=>?_⟩,f8⟩
 ·rw[UZ,Zq8]
  by_cases e:k=p.act
  ·rw[aF e,aF e.symm,e]
   exact f4.vz gM hn
  ·rw[au e,au (Ne.symm e),uT]
   exact((s.yb k).EO f6 f7 (s.dj k p.act e)).vz gM hn
 ·rw[UZ]at hi ⊢
  by_cases e:k=p.act
  ·rw[aF e,f5]at hi
   rw[au (fun hc=>hk (e.trans hc.symm))]
   intro hc
   have:=(s.yb k').row i hc
   simp at hi
   omega
  ·rw[au e]at hi
   by_cases e2:k'=p.act
   ·rw[aF e2,f5]
    have:=(s.yb k).row i hi
    simp
    omega
   ·rw[au e2]
    exact s.dj k k' hk i hi
set_option maxHeartbeats 2000000
def A.b13:aq:=sr [bx 2 22 0,bx 3 23 1,mN 4,mc 5 0]
 (sr [⟨(some 8),.bM 81 [] [(.tmp 2)],none⟩,⟨(some 9),.bM 82 [] [(.tmp 3),(.tmp 2)],none⟩,⟨(some 10),.bM 83 [] [(.tmp 3)],none⟩,⟨(some 11),.aO 94 1 3 [.aG,.aG,.aG] [(0,1,(.tmp 8)),(1,1,(.tmp 9)),(2,1,(.tmp 10))],none⟩,c1 12 64 11,mv 6 12]
 (.seq (sr [mv 13 6,ni 14 13 0]
 (cd 14
 (sr [mv 15 6,mN 4,mv 5 15]
 (.ret))
 (.skip)))
 (sr [ld 16 3,c1 17 72 16,⟨(some 7),.alloc [.aa] 97,none⟩,so 7 17]
 (sr [ld 18 2,c1 19 71 18,⟨(some 20),.bM 87 [] [(.tmp 7)],none⟩,c2 21 86 19 20,c1 22 69 21,xt 23 22 0,xt 24 22 1,mv 4 23,mv 5 24]
 (.ret)))))
theorem A.c13:A.F 13=some ⟨25,[.tmp 4,.tmp 5],A.b13⟩:=by kernel_rfl
def A.k13:=@A.kk 13 _ _ _ A.c13 rfl
set_option maxHeartbeats 2000000
def A.b12:aq:=sr [bx 2 22 0,bx 3 23 1,mN 4,mc 5 0]
 (sr [⟨(some 7),.bM 73 [] [(.tmp 2)],none⟩,⟨(some 8),.bM 76 [] [(.tmp 2)],none⟩,⟨(some 9),.bM 77 [] [(.tmp 2)],none⟩,⟨(some 10),.bM 79 [] [(.tmp 3),(.tmp 2)],none⟩,⟨(some 11),.aO 94 1 4 [.aG,.aG,.aG,.aG] [(0,1,(.tmp 7)),(1,1,(.tmp 8)),(2,1,(.tmp 9)),(3,1,(.tmp 10))],none⟩,c1 12 64 11,mv 6 12]
 (.seq (sr [mv 13 6,ni 14 13 0]
 (cd 14
 (sr [mv 15 6,mN 4,mv 5 15]
 (.ret))
 (.skip)))
 (.seq (.aV [ld 16 2,c1 17 71 16,ld 18 2,⟨(some 19),.aN 1 (.tmp 18) (.const (.int .i64 0)),none⟩,ld 20 19,ln 21 20,c2 22 80 17 21,ld 23 3,c1 24 72 23,c2 25 70 22 24,c1 26 69 25,xt 27 26 0,xt 28 26 1,mv 4 27,mv 5 28] [0,1,0,4,12,28,63,0,255,511,1023,2047,2047,8191,16383])
 (.ret))))
theorem A.c12:A.F 12=some ⟨29,[.tmp 4,.tmp 5],A.b12⟩:=by kernel_rfl
def A.k12:=@A.kk 12 _ _ _ A.c12 rfl
end Go.Mx
