/-
  lensletref05: Turned, Weighted.
-/
import Derived.Test.YtlbophlgohokkaaGreatDoorNdC
set_option linter.all false
namespace Go.Mx
open Go Go.Proofs
variable {N:Nat} {h h':T O} {l:List Rat} {m:List (List Rat)} {u v:V} {w:List Nat}
set_option maxHeartbeats 1000000
set_option maxRecDepth 1000000
def pZ(h:T O)(N:Nat)(u:V)(l:List Rat):Prop:=Tx h N u l/\∀i∈dj u,∃z w,h.get i=some (.cells z 36 w)
theorem Jg{l:List V}(s:Sl h N v l):∀i∈dj v,i<N:=fun i hi=>by
 rcases s with⟨_,rfl|rfl⟩|⟨j,o,cp,c,e,rw,rfl,hj,_⟩
 ·simp[dj]at hi
 ·simp[dj]at hi
 ·simp[dj]at hi;omega
theorem pZ.ad{N':Nat}(s:pZ h N u l)(k:ab h N h' N'):pZ h' N' u l:=⟨s.1.ad k,fun i hi=>by rw[k.get i (Jg s.1 i hi)];exact s.2 i hi⟩
theorem pZ.cL{n n':Nat}{Y:V->Prop}{e:TypeId}(s:pZ h n u l)(k:dC (fun i=>i∈dj v) h n h' n')(hd:pV e Y h v)(he:e≠36):pZ h' n' u l:=by
 have hn:∀i∈dj u,i∉dj v:=fun i hi hc=>by
  obtain⟨z,w,hz⟩:=s.2 i hi
  obtain⟨z2,dP,_⟩:=hd i hc
  rw[hz]at dP
  simp at dP
  exact he dP.2.1.symm
 exact⟨Sl.cL s.1 k hn,fun i hi=>by rw[k.get i (Jg s.1 i hi) (hn i hi)];exact s.2 i hi⟩
theorem Ni{N0:Nat}(s:Own 1 36 N0 h N v ((tx l).map fun y=>[y])):pZ h N v l:=by
 refine⟨Sn.one.1 s.sn,fun i hi=>?_⟩
 obtain⟨_,⟨_,rfl⟩|⟨j,rfl,_,_,hg⟩⟩:=s
 ·simp[dj]at hi
 ·simp[dj]at hi;subst hi;exact⟨_,_,hg⟩
def n_(N0:Nat)(h:T O)(N:Nat)(v:V)(m:List (List Rat)):Prop:=∃us:List V,Own 1 23 N0 h N v (us.map fun y=>[y])/\(us=[]->v=.aa)/\us.length=m.length/\∀(j:Nat) (l:List Rat),m[j]?=some l->∃u,us[j]?=some u/\pZ h N u l
theorem n_.nil{N0:Nat}:n_ N0 h N .aa []:=⟨[],Own.nil,fun _=>rfl,rfl,fun j l hl=>by simp at hl⟩
theorem n_.ad{N0:Nat}{N':Nat}(s:n_ N0 h N v m)(k:ab h N h' N'):n_ N0 h' N' v m:=by
 obtain⟨us,h1,h2,h3,h4⟩:=s
 refine⟨us,h1.ad k,h2,h3,fun j l hl=>?_⟩
 obtain⟨u,g1,g2⟩:=h4 j l hl
 exact⟨u,g1,g2.ad k⟩
theorem n_.A4{N0:Nat}(s:n_ N0 h N v m):iO h N v m:=by
 obtain⟨us,h1,h2,h3,h4⟩:=s
 refine⟨us,Sn.one.1 h1.sn,h3,fun j l hl=>?_⟩
 obtain⟨u,g1,g2⟩:=h4 j l hl
 exact⟨u,g1,g2.1⟩
theorem n_.push{N0:Nat}{x:V}(s:n_ N0 h N v m)(hu:pZ h N u l)(hN:N0<=N)(hx:ft ⟨h,N,w⟩ 1 x=some (1,[u]))(hm:m.length<100000):
  ∃v' h' w',jQ ⟨h,N,w⟩ 1 24 23 v x=some (v',⟨h',N+1,w'⟩)/\au N0 w'=au N0 w/\ab h N0 h' (N+1)/\n_ N0 h' (N+1) v' (m++[l]):=by
 obtain⟨us,h1,h2,h3,h4⟩:=s
 obtain⟨v',h',w',f1,f2,f3,f4,fD,f5⟩:=Dl (Y:=fun _=>True) (x:=[u]) (u:=x) (bytes:=24) (w:=w) h1 (fun h0=>h2 (List.map_eq_nil_iff.1 h0)) (fun _ _ _ _=>trivial) hN (by decide) rfl hx (by rw[si];omega)
 refine⟨v',h',w',f1,f2,f3,us++[u],by simpa using f5,by simp,by simp[h3],fun j r hr=>?_⟩
 by_cases hj:j<m.length
 ·rw[jO hj]at hr
  obtain⟨u',g1,g2⟩:=h4 j r hr
  exact⟨u',by rw[jO (by omega)];exact g1,g2.cL f4 fD (by simp)⟩
 ·rw[od (by omega)]at hr
  cases hd:j-m.length with
  |zero=>
   rw[hd]at hr
   simp at hr
   subst hr
   exact⟨u,by rw[od (by omega),h3,hd];rfl,hu.cL f4 fD (by simp)⟩
  |succ d=>rw[hd]at hr;simp at hr
theorem Mi{N i:Nat}:∀{w:List Nat},i∈w->i<N->i∈au N w
 |[],h,_=>by simp at h
 |j::w,h,hi=>by
  simp only[au]
  rcases jN.1 h with rfl|h
  ·rw[aF hi]
   unfold qo
   split
   ·rename_i hc;simpa using hc
   ·exact mS
  ·have:=Mi h hi
   split
   ·unfold qo
    split
    ·exact this
    ·exact mr _ this
   ·exact this
theorem Ygf{n1:Nat}{w':List Nat}(h:au n1 w'=au n1 w)(hN:N<=n1)(hw:au N w=[]):au N w'=[]:=by
 apply List.eq_nil_iff_forall_not_mem.2
 intro i hi
 obtain⟨h1,h2⟩:=Cd hi
 have h3:=Mi h1 (show i<n1 by omega)
 rw[h]at h3
 have h4:=Mi (Cd h3).1 h2
 rw[hw]at h4
 simp at h4
theorem Jj(h:au N w=[]):∀i∈w,N<=i:=fun i hi=>by
 apply tA
 intro hc
 have:=Mi hi hc
 rw[h]at this
 simp at this
theorem Yky{n:Nat}{a b:List Nat}(ha:au N a=[])(hb:au N b=[]):au N (au n a++b)=[]:=Dr fun i hi=>by
 rcases pw.1 hi with hi|hi
 ·exact Jj ha i (Cd hi).1
 ·exact Jj hb i hi
variable {N n:Nat} {h:T O} {m:List (List aX)} {v:V} {w:List Nat}
def A.zbJ:aq:=.seq (sr [mv 20 5,mv 21 0,ln 22 21,bi 23 .lss 20 22]
 (cd 23
 (.skip)
 (.exit 0)))
 (.seq (.block 1 (sr [mv 26 0,mv 27 5,ia 28 1 26 27,ld 29 28,⟨(some 30),.len 0 (.tmp 29),none⟩,bc 31 .gtr 30 24]
 (cd 31
 (sr [⟨(some 4),.aZ (.const (.bool false)),none⟩]
 (.ret))
 (.skip))))
 (.aL [mv 24 5,bc 25 .add 24 1,mv 5 25]))
def A.b9:aq:=sr [⟨(some 4),.aZ (.const (.bool false)),none⟩]
 (.seq (sr [mv 6 0,ln 7 6,mv 8 1,bi 9 .gtr 7 8,mv 10 9,mg 11 0 10,⟨(some 12),.len 1 (.tmp 11),(some (10,true))⟩,⟨(some 13),.bin .leq (.node []) false (.tmp 12) (.const (.int .i64 64)),(some (10,true))⟩,pf 14 10 13,mv 15 14,mh 16 0 15,⟨(some 17),.len 1 (.tmp 16),(some (15,false))⟩,⟨(some 18),.bin .gtr (.node []) false (.tmp 17) (.const (.int .i64 66)),(some (15,false))⟩,pt 19 15 18]
 (cd 19
 (sr [⟨(some 4),.aZ (.const (.bool false)),none⟩]
 (.ret))
 (.skip)))
 (.seq (sr [mc 5 0]
 (.block 0 (.loop A.zbJ)))
 (sr [⟨(some 4),.aZ (.const (.bool true)),none⟩]
 (.ret))))
theorem A.c9:A.F 9=some ⟨32,[.tmp 4],A.b9⟩:=by kernel_rfl
def A.k9:=@A.kk 9 _ _ _ A.c9 rfl
def A.zbK:aq:=.seq (sr [mv 22 7,mv 23 0,ln 24 23,bi 25 .lss 22 24]
 (cd 25
 (.skip)
 (.exit 0)))
 (.seq (.block 1 (sr [mv 28 0,mv 29 7,ia 30 1 28 29,ld 31 30,mv 32 2,c2 33 9 31 32,⟨(some 34),.un .not (.tmp 33),none⟩]
 (cd 34
 (sr [⟨(some 6),.aZ (.const (.bool false)),none⟩]
 (.ret))
 (.skip))))
 (.aL [mv 26 7,bc 27 .add 26 1,mv 7 27]))
def A.b8:aq:=sr [⟨(some 6),.aZ (.const (.bool false)),none⟩]
 (.seq (sr [mv 8 0,ln 9 8,mv 10 1,bi 11 .gtr 9 10,mv 12 11,mg 13 0 12,⟨(some 14),.len 1 (.tmp 13),(some (12,true))⟩,⟨(some 15),.bin .leq (.node []) false (.tmp 14) (.const (.int .i64 64)),(some (12,true))⟩,pf 16 12 15,mv 17 16,mh 18 0 17,⟨(some 19),.len 1 (.tmp 18),(some (17,false))⟩,⟨(some 20),.bin .gtr (.node []) false (.tmp 19) (.const (.int .i64 66)),(some (17,false))⟩,pt 21 17 20]
 (cd 21
 (sr [⟨(some 6),.aZ (.const (.bool false)),none⟩]
 (.ret))
 (.skip)))
 (.seq (sr [mc 7 0]
 (.block 0 (.loop A.zbK)))
 (sr [⟨(some 6),.aZ (.const (.bool true)),none⟩]
 (.ret))))
theorem A.c8:A.F 8=some ⟨35,[.tmp 6],A.b8⟩:=by kernel_rfl
def A.k8:=@A.kk 8 _ _ _ A.c8 rfl
def A.za4:aq:=.seq (sr [mv 11 5,mv 12 0,ln 13 12,bi 14 .lss 11 13]
 (cd 14
 (.skip)
 (.exit 0)))
 (.seq (.block 1 (.seq (.aS [mv 17 0,mv 18 5,ia 19 1 17 18,ld 20 19,mv 21 1,mv 22 5,ia 23 1 21 22,ld 24 23,⟨(some 25),.bin .neq (.aH .str) false (.tmp 20) (.tmp 24),none⟩] [0,0,3,7,0,0,48,112,255])
 (cd 25
 (sr [⟨(some 4),.aZ (.const (.bool false)),none⟩]
 (.ret))
 (.skip))))
 (.aL [mv 15 5,bc 16 .add 15 1,mv 5 16]))
def A.b60:aq:=sr [⟨(some 4),.aZ (.const (.bool false)),none⟩]
 (.seq (sr [mv 6 0,ln 7 6,mv 8 1,ln 9 8,⟨(some 10),.bin .neq (.aH .int) false (.tmp 7) (.tmp 9),none⟩]
 (cd 10
 (sr [⟨(some 4),.aZ (.const (.bool false)),none⟩]
 (.ret))
 (.skip)))
 (.seq (sr [mc 5 0]
 (.block 0 (.loop A.za4)))
 (sr [⟨(some 4),.aZ (.const (.bool true)),none⟩]
 (.ret))))
theorem A.c60:A.F 60=some ⟨26,[.tmp 4],A.b60⟩:=by kernel_rfl
def A.k60:=@A.kk 60 _ _ _ A.c60 rfl
theorem Tf{u:V}{l:List aX}(hu:Sl h N u (strs l))(hv:Sl h N v (strs l))(hl:l.length<100000):A.C.call (.func 60 [] []) [u,v] ⟨h,N,w⟩=some (.bool true,⟨h,N,w⟩):=by
 apply Call.eq
 have l1:=hu.len
 have l2:=hv.len
 rw[rE]at l1 l2
 rw[aP,A.k60 (by simp)]
 simp[A.b60,l1,l2]
 refine bN [(4,5),(11,25)] (fun e r st=>st=⟨h,N,[]⟩/\e=.exit 0) (fun m r st=>st=⟨h,N,[]⟩/\∃k,k+m=l.length/\r.get 5=some (.int .i64 k)) l.length ?_ ?_ ?_
 ·exact⟨rfl,0,by omega,by simp⟩
 ·rintro m r _ hr hf ⟨rfl,k,hk,h5⟩
  rw[bn]
  cases m with
  |zero=>
   obtain rfl:k=l.length:=by omega
   simp[A.za4,hr,hf,h5,l1]
  |succ m=>
   have aB:k<l.length:=by omega
   obtain⟨s,hs⟩:=bs aB
   obtain⟨i,o,c,e,rw,q1,q2,q3,q4⟩:=hu.at (zW hs)
   obtain⟨i',o',c',e',oD,p1,p2,p3,p4⟩:=hv.at (zW hs)
   have bU:(k:Int)<(l.length:Int):=by omega
   simp(disch:=first|(simp;done)|omega|rfl) [A.za4,hr,hf,h5,l1,l2,bU,q1,q2,q3,q4,p1,p2,p3,p4,fM]
   exact⟨m,by omega,k+1,by omega,by simp⟩
 ·rintro _ r _ hr ⟨rfl,rfl⟩
  simp
def l_(s:aX):Bool:=decide (s.length<=24)
def oc(k n:Nat):Bool:=decide (k<=n\/64<k/\k<=66)
def iU(n:Nat)(l:List aX):Bool:=oc l.length n&&l.all l_
theorem ZB{k:Nat}(h:oc k n=true)(hn:n<64):k<=66:=by
 simp[oc]at h
 omega
theorem ZC{l:List aX}(hs:Sl h N v (strs l))(hl:l.length<9223372036854775808)(hn:n<64):A.C.call (.func 9 [] []) [v,.int .i64 n] ⟨h,N,w⟩=some (.bool (iU n l),⟨h,N,w⟩):=by
 apply Call.eq
 have lg:=hs.len
 rw[rE]at lg
 rw[aP,A.k9 (by simp)]
 have fin:oc l.length n=true->iU n l=l.all l_:=fun h=>by simp[iU,h]
 by_cases c1:l.length<=n
 ·rw[fin (by simp[oc,c1])]
  have a1:¬(n:Int)<(l.length:Int):=by omega
  have a2:¬66<(l.length:Int):=by omega
  simp[A.b9,lg,a1,a2]
  refine bN [(4,5),(20,31)] (fun e r st=>st=⟨h,N,[]⟩/\((e=.exit 0/\l.all l_=true)\/(e=.ret/\l.all l_=false/\r.get 4=some (.bool false)))) (fun m r st=>st=⟨h,N,[]⟩/\∃k,k+m=l.length/\r.get 5=some (.int .i64 k)/\l.all l_=(l.drop k).all l_) l.length ?_ ?_ ?_
  ·exact⟨rfl,0,by omega,by simp,by simp⟩
  ·rintro m r _ hr hf ⟨rfl,k,hk,hx,hz⟩
   rw[bn]
   cases m with
   |zero=>
    obtain rfl:k=l.length:=by omega
    rw[lP,List.all_nil]at hz
    simp[A.zbJ,hr,hf,hx,lg,hz]
   |succ m=>
    have aB:k<l.length:=by omega
    have bU:(k:Int)<(l.length:Int):=by omega
    obtain⟨s,hc⟩:=bs aB
    obtain⟨i,o,cc,e,rw,q1,q2,q3,q4⟩:=hs.at (zW hc)
    rw[fP hc,List.all_cons]at hz
    by_cases c4:l_ s=true
    ·rw[c4,Bool.true_and]at hz
     have c6:¬24<(s.length:Int):=by simp[l_]at c4;omega
     simp(disch:=first|(simp;done)|omega|rfl) [A.zbJ,hr,hf,hx,lg,bU,q1,q3,q4,c6]
     exact⟨m,by omega,k+1,by omega,by simp,hz⟩
    ·have c5:l_ s=false:=by simpa using c4
     rw[c5,Br]at hz
     have c6:24<(s.length:Int):=by simp[l_]at c5;omega
     simp[A.zbJ,hr,hf,hx,lg,bU,q1,q3,q4,c6,hz]
  ·rintro e r _ hr ⟨rfl,⟨rfl,hq⟩|⟨rfl,hq,h2⟩⟩
   ·simp[hq]
   ·simp[hq,h2]
 ·have a1:(n:Int)<(l.length:Int):=by omega
  have Lm:n<l.length:=by omega
  by_cases c2:l.length<=64
  ·have a3:(l.length:Int)<=64:=by omega
   have e1:iU n l=false:=by simp[iU,oc,c1];omega
   simp[A.b9,lg,a1,a3,e1]
  ·have a3:¬(l.length:Int)<=64:=by omega
   by_cases c3:66<l.length
   ·have a4:66<(l.length:Int):=by omega
    have e1:iU n l=false:=by simp[iU,oc,c1];omega
    simp[A.b9,lg,a1,a3,a4,e1]
   ·have a4:¬66<(l.length:Int):=by omega
    rw[fin (by simp[oc];omega)]
    simp[A.b9,lg,a1,a3,a4]
    refine bN [(4,5),(20,31)] (fun e r st=>st=⟨h,N,[]⟩/\((e=.exit 0/\l.all l_=true)\/(e=.ret/\l.all l_=false/\r.get 4=some (.bool false)))) (fun m r st=>st=⟨h,N,[]⟩/\∃k,k+m=l.length/\r.get 5=some (.int .i64 k)/\l.all l_=(l.drop k).all l_) l.length ?_ ?_ ?_
    ·exact⟨rfl,0,by omega,by simp,by simp⟩
    ·rintro m r _ hr hf ⟨rfl,k,hk,hx,hz⟩
     rw[bn]
     cases m with
     |zero=>
      obtain rfl:k=l.length:=by omega
      rw[lP,List.all_nil]at hz
      simp[A.zbJ,hr,hf,hx,lg,hz]
     |succ m=>
      have aB:k<l.length:=by omega
      have bU:(k:Int)<(l.length:Int):=by omega
      obtain⟨s,hc⟩:=bs aB
      obtain⟨i,o,cc,e,rw,q1,q2,q3,q4⟩:=hs.at (zW hc)
      rw[fP hc,List.all_cons]at hz
      by_cases c4:l_ s=true
      ·rw[c4,Bool.true_and]at hz
       have c6:¬24<(s.length:Int):=by simp[l_]at c4;omega
       simp(disch:=first|(simp;done)|omega|rfl) [A.zbJ,hr,hf,hx,lg,bU,q1,q3,q4,c6]
       exact⟨m,by omega,k+1,by omega,by simp,hz⟩
      ·have c5:l_ s=false:=by simpa using c4
       rw[c5,Br]at hz
       have c6:24<(s.length:Int):=by simp[l_]at c5;omega
       simp[A.zbJ,hr,hf,hx,lg,bU,q1,q3,q4,c6,hz]
    ·rintro e r _ hr ⟨rfl,⟨rfl,hq⟩|⟨rfl,hq,h2⟩⟩
     ·simp[hq]
     ·simp[hq,h2]
def gI(h:T O)(N:Nat)(v:V)(m:List (List aX)):Prop:=∃us:List V,Sl h N v us/\us.length=m.length/\∀(j:Nat) (l:List aX),m[j]?=some l->∃u,us[j]?=some u/\Sl h N u (strs l)
theorem gI.ad{h':T O}{N':Nat}(s:gI h N v m)(k:ab h N h' N'):gI h' N' v m:=by
 obtain⟨us,h1,h2,h3⟩:=s
 refine⟨us,h1.ad k,h2,fun j l hl=>?_⟩
 obtain⟨u,g1,g2⟩:=h3 j l hl
 exact⟨u,g1,g2.ad k⟩
theorem gI.len(s:gI h N v m):kq v=some m.length:=by
 obtain⟨us,h1,h2,_⟩:=s
 rw[h1.len,h2]
theorem gI.at(s:gI h N v m){j:Nat}{l:List aX}(hj:m[j]?=some l):∃i o c e rw u,tK v=some (i,o)/\i<N/\h.get i=some (.cells c e rw)/\c[o+j]?=some u/\Sl h N u (strs l):=by
 obtain⟨us,h1,h2,h3⟩:=s
 obtain⟨u,g1,g2⟩:=h3 j l hj
 obtain⟨i,o,c,e,rw,q1,q2,q3,q4⟩:=h1.at g1
 exact⟨i,o,c,e,rw,u,q1,q2,q3,q4,g2⟩
theorem gI.A4{m:List (List Rat)}(s:gI h N v (m.map fun l=>l.map aN)):iO h N v m:=by
 obtain⟨us,h1,h2,h3⟩:=s
 refine⟨us,h1,by simpa using h2,fun j l hl=>?_⟩
 exact h3 j (l.map aN) (by simp[hl])
def mb(r c:Nat)(m:List (List aX)):Bool:=oc m.length r&&m.all (iU c)
theorem Zv{l:List (List aX)}{p:Nat}(hs:gI h N v l)(hl:l.length<9223372036854775808)(lC:∀x∈l,x.length<9223372036854775808)(hn:n<64)(hp:p<64):A.C.call (.func 8 [] []) [v,.int .i64 n,.int .i64 p] ⟨h,N,w⟩=some (.bool (mb n p l),⟨h,N,w⟩):=by
 apply Call.eq
 have lg:=hs.len
 rw[aP,A.k8 (by simp)]
 have fin:oc l.length n=true->mb n p l=l.all (iU p):=fun h=>by simp[mb,h]
 by_cases c1:l.length<=n
 ·rw[fin (by simp[oc,c1])]
  have a1:¬(n:Int)<(l.length:Int):=by omega
  have a2:¬66<(l.length:Int):=by omega
  simp[A.b8,lg,a1,a2]
  refine bN [(6,7),(22,34)] (fun e r st=>st=⟨h,N,[]⟩/\((e=.exit 0/\l.all (iU p)=true)\/(e=.ret/\l.all (iU p)=false/\r.get 6=some (.bool false)))) (fun m r st=>st=⟨h,N,[]⟩/\∃k,k+m=l.length/\r.get 7=some (.int .i64 k)/\l.all (iU p)=(l.drop k).all (iU p)) l.length ?_ ?_ ?_
  ·exact⟨rfl,0,by omega,by simp,by simp⟩
  ·rintro m r _ hr hf ⟨rfl,k,hk,hx,hz⟩
   rw[bn]
   cases m with
   |zero=>
    obtain rfl:k=l.length:=by omega
    rw[lP,List.all_nil]at hz
    simp[A.zbK,hr,hf,hx,lg,hz]
   |succ m=>
    have aB:k<l.length:=by omega
    have bU:(k:Int)<(l.length:Int):=by omega
    obtain⟨s,hc⟩:=bs aB
    obtain⟨i,o,cc,e,rw,u,q1,q2,q3,q4,q5⟩:=hs.at hc
    have cC:=fun w=>ZC (w:=w) q5 (lC s (cm hc)) hp
    rw[fP hc,List.all_cons]at hz
    by_cases c4:(iU p) s=true
    ·rw[c4,Bool.true_and]at hz
     simp(disch:=first|(simp;done)|omega|rfl) [A.zbK,hr,hf,hx,lg,bU,q1,q3,q4,cC,c4]
     exact⟨m,by omega,k+1,by omega,by simp,hz⟩
    ·have c5:(iU p) s=false:=by simpa using c4
     rw[c5,Br]at hz
     simp[A.zbK,hr,hf,hx,lg,bU,q1,q3,q4,cC,c5,hz]
  ·rintro e r _ hr ⟨rfl,⟨rfl,hq⟩|⟨rfl,hq,h2⟩⟩
   ·simp[hq]
   ·simp[hq,h2]
 ·have a1:(n:Int)<(l.length:Int):=by omega
  have Lm:n<l.length:=by omega
  by_cases c2:l.length<=64
  ·have a3:(l.length:Int)<=64:=by omega
   have e1:mb n p l=false:=by simp[mb,oc,c1];omega
   simp[A.b8,lg,a1,a3,e1]
  ·have a3:¬(l.length:Int)<=64:=by omega
   by_cases c3:66<l.length
   ·have a4:66<(l.length:Int):=by omega
    have e1:mb n p l=false:=by simp[mb,oc,c1];omega
    simp[A.b8,lg,a1,a3,a4,e1]
   ·have a4:¬66<(l.length:Int):=by omega
    rw[fin (by simp[oc];omega)]
    simp[A.b8,lg,a1,a3,a4]
    refine bN [(6,7),(22,34)] (fun e r st=>st=⟨h,N,[]⟩/\((e=.exit 0/\l.all (iU p)=true)\/(e=.ret/\l.all (iU p)=false/\r.get 6=some (.bool false)))) (fun m r st=>st=⟨h,N,[]⟩/\∃k,k+m=l.length/\r.get 7=some (.int .i64 k)/\l.all (iU p)=(l.drop k).all (iU p)) l.length ?_ ?_ ?_
    ·exact⟨rfl,0,by omega,by simp,by simp⟩
    ·rintro m r _ hr hf ⟨rfl,k,hk,hx,hz⟩
     rw[bn]
     cases m with
     |zero=>
      obtain rfl:k=l.length:=by omega
      rw[lP,List.all_nil]at hz
      simp[A.zbK,hr,hf,hx,lg,hz]
     |succ m=>
      have aB:k<l.length:=by omega
      have bU:(k:Int)<(l.length:Int):=by omega
      obtain⟨s,hc⟩:=bs aB
      obtain⟨i,o,cc,e,rw,u,q1,q2,q3,q4,q5⟩:=hs.at hc
      have cC:=fun w=>ZC (w:=w) q5 (lC s (cm hc)) hp
      rw[fP hc,List.all_cons]at hz
      by_cases c4:(iU p) s=true
      ·rw[c4,Bool.true_and]at hz
       simp(disch:=first|(simp;done)|omega|rfl) [A.zbK,hr,hf,hx,lg,bU,q1,q3,q4,cC,c4]
       exact⟨m,by omega,k+1,by omega,by simp,hz⟩
      ·have c5:(iU p) s=false:=by simpa using c4
       rw[c5,Br]at hz
       simp[A.zbK,hr,hf,hx,lg,bU,q1,q3,q4,cC,c5,hz]
    ·rintro e r _ hr ⟨rfl,⟨rfl,hq⟩|⟨rfl,hq,h2⟩⟩
     ·simp[hq]
     ·simp[hq,h2]
variable {N:Nat} {h:T O} {v:V}
def A.zcj:aq:=.seq (sr [mv 5 3,mv 6 0,ln 7 6,bi 8 .lss 5 7]
 (cd 8
 (.skip)
 (.exit 0)))
 (.seq (.block 1 (sr [mv 11 0,mv 12 3,ia 13 1 11 12,ld 14 13,c1 15 93 14,mv 4 15]
 (sr [mv 16 4,ni 17 16 0]
 (cd 17
 (sr [mv 18 4,mv 2 18]
 (.ret))
 (.skip)))))
 (.aL [mv 9 3,bc 10 .add 9 1,mv 3 10]))
def A.b92:aq:=sr [mc 2 0]
 (.seq (sr [mc 3 0]
 (.block 0 (.loop A.zcj)))
 (sr [mc 2 0]
 (.ret)))
theorem A.c92:A.F 92=some ⟨19,[.tmp 2],A.b92⟩:=by kernel_rfl
def A.k92:=@A.kk 92 _ _ _ A.c92 rfl
def A.b16:aq:=sr [mc 4 0]
 (.seq (sr [mv 5 0,ln 6 5,mv 7 1,⟨(some 8),.bin .neq (.aH .int) false (.tmp 6) (.tmp 7),none⟩]
 (cd 8
 (sr [mc 4 2]
 (.ret))
 (.skip)))
 (sr [mv 9 0,c1 10 92 9,mv 4 10]
 (.ret)))
theorem A.c16:A.F 16=some ⟨11,[.tmp 4],A.b16⟩:=by kernel_rfl
def A.k16:=@A.kk 16 _ _ _ A.c16 rfl
def A.zck:aq:=.seq (sr [mv 31 7,mv 32 0,ln 33 32,bi 34 .lss 31 33]
 (cd 34
 (.skip)
 (.exit 0)))
 (.seq (.block 1 (.seq (.aS [mv 37 0,mv 38 7,ia 39 1 37 38,ld 40 39,mv 41 0,⟨(some 42),.aI 1 (.tmp 41) (.const (.int .i64 0)),none⟩,ld 43 42,ln 44 43,c2 45 16 40 44,mv 8 45] [0,0,3,7,0,16,48,112,255,511])
 (sr [mv 46 8,ni 47 46 0]
 (cd 47
 (sr [mv 48 8,mv 6 48]
 (.ret))
 (.skip)))))
 (.aL [mv 35 7,bc 36 .add 35 1,mv 7 36]))
def A.b14:aq:=sr [mc 6 0]
 (.seq (sr [mv 9 0,ln 10 9,ei 11 10 0,mv 12 11,mh 13 0 12,⟨(some 14),.aI 1 (.tmp 13) (.const (.int .i64 0)),(some (12,false))⟩,⟨(some 15),.load none (.tmp 14),(some (12,false))⟩,⟨(some 16),.len 1 (.tmp 15),(some (12,false))⟩,⟨(some 17),.bin .eql (.aH .int) true (.tmp 16) (.const (.int .i64 0)),(some (12,false))⟩,pt 18 12 17]
 (cd 18
 (sr [mc 6 12]
 (.ret))
 (.skip)))
 (.seq (sr [mv 19 0,ln 20 19,mv 21 1,bi 22 .gtr 20 21,mv 23 22,mh 24 0 23,⟨(some 25),.aI 1 (.tmp 24) (.const (.int .i64 0)),(some (23,false))⟩,⟨(some 26),.load none (.tmp 25),(some (23,false))⟩,⟨(some 27),.len 1 (.tmp 26),(some (23,false))⟩,mh 28 2 23,⟨(some 29),.bin .gtr (.node []) false (.tmp 27) (.tmp 28),(some (23,false))⟩,pt 30 23 29]
 (cd 30
 (sr [mc 6 5]
 (.ret))
 (.skip)))
 (.seq (sr [mc 7 0]
 (.block 0 (.loop A.zck)))
 (sr [mc 6 0]
 (.ret)))))
theorem A.c14:A.F 14=some ⟨49,[.tmp 6],A.b14⟩:=by kernel_rfl
def A.k14:=@A.kk 14 _ _ _ A.c14 rfl
def A.b15:aq:=sr [mc 2 0]
 (.seq (sr [mv 3 0,ln 4 3,ei 5 4 0]
 (cd 5
 (sr [mc 2 12]
 (.ret))
 (.skip)))
 (.seq (sr [mv 6 0,ln 7 6,bc 8 .gtr 7 16]
 (cd 8
 (sr [mc 2 5]
 (.ret))
 (.skip)))
 (.seq (sr [mv 9 0,⟨(some 10),.aI 1 (.tmp 9) (.const (.int .i64 0)),none⟩,ld 11 10,ln 12 11,ei 13 12 0]
 (cd 13
 (sr [mc 2 12]
 (.ret))
 (.skip)))
 (.seq (sr [mv 14 0,⟨(some 15),.aI 1 (.tmp 14) (.const (.int .i64 0)),none⟩,ld 16 15,ln 17 16,bc 18 .gtr 17 16]
 (cd 18
 (sr [mc 2 5]
 (.ret))
 (.skip)))
 (sr [mv 19 0,mv 20 0,⟨(some 21),.aI 1 (.tmp 20) (.const (.int .i64 0)),none⟩,ld 22 21,ln 23 22,c2 24 91 19 23,mv 2 24]
 (.ret))))))
theorem A.c15:A.F 15=some ⟨25,[.tmp 2],A.b15⟩:=by kernel_rfl
def A.k15:=@A.kk 15 _ _ _ A.c15 rfl
theorem Ymp{l:List aX}(hs:Sl h N v (strs l))(hl:l.length<100000)(r_:∀s∈l,s.length<=100000):Fn A.C 92 [v] h N (fun u _ _=>u=.int .i64 (bV (l.map fun s=>((bW s:Nat):Int)))):=by
 intro w
 have hlen:=hs.len
 rw[rE]at hlen
 rw[aP,A.k92 (by simp)]
 simp[A.b92]
 refine bN [(2,18)] (fun e r st=>au N st.w=[]/\ab h N st.h st.n/\((e=.exit 0/\bV (l.map fun s=>((bW s:Nat):Int))=0)\/(e=.ret/\r.get 2=some (.int .i64 (bV (l.map fun s=>((bW s:Nat):Int))))))) (fun m r st=>au N st.w=[]/\ab h N st.h st.n/\∃k,k+m=l.length/\r.get 3=some (.int .i64 k)/\bV (l.map fun s=>((bW s:Nat):Int))=bV ((l.drop k).map fun s=>((bW s:Nat):Int))) l.length ?_ ?_ ?_
 ·exact⟨by simp,ab.refl,0,by omega,by simp,by simp⟩
 ·rintro m r ⟨H,n1,W⟩ hr hf ⟨hW,hK,k,hk,h7,hz⟩
  simp only at hW hK
  rw[bn]
  cases m with
  |zero=>
   obtain rfl:k=l.length:=by omega
   rw[lP,ql,bV]at hz
   simp[A.zcj,hr,hf,h7,hlen,hz,hW,hK]
  |succ m=>
   have aB:k<l.length:=by omega
   obtain⟨s,hc⟩:=bs aB
   obtain⟨i,o,cc,e,rw,q1,q2,q3,q4⟩:=(hs.ad hK).at (zW hc)
   rw[fP hc,jU,bV]at hz
   have bU:(k:Int)<(l.length:Int):=by omega
   simp[A.zcj,hr,h7,bU,hlen,q1,q3,q4]
   refine ax (Ybb (r_ s (cm hc))) ?_
   rintro _ h3 n3 k3 rfl
   have kk:=hK.trans k3
   by_cases h0:bW s=0
   ·rw[aF (by omega)]at hz
    simp(disch:=first|(simp;done)|omega|rfl) [hf,h7,h0,hW]
    exact⟨m,by omega,kk,k+1,by omega,by simp,by simpa using hz⟩
   ·rw[ar (by omega)]at hz
    have pQ:¬((bW s:Nat):Int)=0:=by omega
    simp[hf,h0,hW,hz]
    exact kk
 ·rintro _ r ⟨H,n1,W⟩ hr ⟨hW,hK,⟨rfl,hz⟩|⟨rfl,h2⟩⟩
  ·simp only at hW hK
   simp[hz,aA,hW,hK]
  ·simp only at hW hK
   simp[h2,aA,hW,hK]
def fI(l:List aX)(n:Nat):Int:=if l.length=n then bV (l.map fun s=>((bW s:Nat):Int)) else 2
def gT(l:List (List aX)):Nat:=(l[0]?.getD []).length
def jl(l:List (List aX))(r c:Nat):Int:=if l.length=0\/gT l=0 then 12 else if r<l.length\/c<gT l then 5 else bV (l.map fun x=>fI x (gT l))
theorem Zs{l:List aX}{n:Nat}(hs:Sl h N v (strs l))(hl:l.length<100000)(r_:∀s∈l,s.length<=100000):Fn A.C 16 [v,.int .i64 n] h N (fun u _ _=>u=.int .i64 (fI l n)):=by
 intro w
 have hlen:=hs.len
 rw[rE]at hlen
 rw[aP,A.k16 (by simp)]
 by_cases c:l.length=n
 ·subst c
  simp[A.b16,hlen]
  refine ax (Ymp hs hl r_) ?_
  rintro _ H2 n2 k2 rfl
  simp[aA,fI]
  exact k2
 ·have c':¬(l.length:Int)=(n:Int):=by omega
  simp[A.b16,hlen,c',fI,c,aA]
  exact ab.refl
theorem Yms{l:List (List aX)}{a b:Nat}(hs:gI h N v l)(hl:l.length<100000)(hx:∀x∈l,x.length<100000/\∀s∈x,s.length<=100000):Fn A.C 14 [v,.int .i64 a,.int .i64 b] h N (fun u _ _=>u=.int .i64 (jl l a b)):=by
 intro w
 have hlen:=hs.len
 rw[aP,A.k14 (by simp)]
 by_cases c0:l.length=0
 ·have c0':(l.length:Int)=0:=by omega
  simp[A.b14,hlen,c0,jl,aA]
  exact ab.refl
 have c0':¬(l.length:Int)=0:=by omega
 have jL:0<l.length:=by omega
 have AT:0<(l.length:Int):=by omega
 obtain⟨l0,ff⟩:=bs jL
 obtain⟨i0,o0,Mc,e0,AF,u0,z1,z2,z3,z4,z5⟩:=hs.at ff
 have z6:=z5.len
 rw[rE]at z6
 rw[jR]at z4
 obtain⟨n,hn⟩:∃n,n=l0.length:=⟨_,rfl⟩
 have en:gT l=n:=by simp[gT,ff,hn]
 rw[<-hn]at z6
 have xl:n<100000:=by have:=(hx l0 (cm ff)).1;omega
 by_cases c1:n=0
 ·have c1':(n:Int)=0:=by omega
  simp[A.b14,hlen,c0,jL,z1,z3,z4,z6,c1,jl,en,aA]
  exact ab.refl
 have c1':¬(n:Int)=0:=by omega
 by_cases c2:a<l.length
 ·have c2':(a:Int)<(l.length:Int):=by omega
  simp[A.b14,hlen,c0,jL,z1,z3,z4,z6,c1,c2,c2',jl,en,aA]
  exact ab.refl
 have c2':¬(a:Int)<(l.length:Int):=by omega
 by_cases c3:b<n
 ·have c3':(b:Int)<(n:Int):=by omega
  simp[A.b14,hlen,c0,jL,z1,z3,z4,z6,c1,c2,c2',c3,c3',jl,en,aA]
  exact ab.refl
 ·have c3':¬(b:Int)<(n:Int):=by omega
  have e1:jl l a b=bV (l.map fun x=>fI x n):=by simp[jl,en,c0,c1,c2,c3]
  rw[e1]
  simp[A.b14,hlen,c0,jL,z1,z3,z4,z6,c1,c2',c3']
  refine bN [(6,8),(31,48)] (fun e r st=>au N st.w=[]/\ab h N st.h st.n/\((e=.exit 0/\bV (l.map fun x=>fI x n)=0)\/(e=.ret/\r.get 6=some (.int .i64 (bV (l.map fun x=>fI x n)))))) (fun m r st=>au N st.w=[]/\ab h N st.h st.n/\∃k,k+m=l.length/\r.get 7=some (.int .i64 k)/\bV (l.map fun x=>fI x n)=bV ((l.drop k).map fun x=>fI x n)) l.length ?_ ?_ ?_
  ·exact⟨by simp,ab.refl,0,by omega,by simp,by simp⟩
  ·rintro m r ⟨H,n1,W⟩ hr hf ⟨hW,hK,k,hk,h7,hz⟩
   simp only at hW hK
   rw[bn]
   cases m with
   |zero=>
    obtain rfl:k=l.length:=by omega
    rw[lP,ql,bV]at hz
    simp[A.zck,hr,hf,h7,hlen,hz,hW,hK]
   |succ m=>
    have aB:k<l.length:=by omega
    obtain⟨s,hc⟩:=bs aB
    obtain⟨i,o,cc,e,rw,u,q1,q2,q3,q4,q5⟩:=(hs.ad hK).at hc
    rw[fP hc,jU,bV]at hz
    have bU:(k:Int)<(l.length:Int):=by omega
    obtain⟨i1,o1,Jw,e1,rw1,u1,y1,y2,y3,y4,y5⟩:=(hs.ad hK).at ff
    have y6:=y5.len
    rw[rE,<-hn]at y6
    rw[jR]at y4
    obtain⟨rfl,rfl⟩:i=i1/\o=o1:=by rw[q1]at y1;simpa using y1
    obtain⟨rfl,rfl,rfl⟩:cc=Jw/\e=e1/\rw=rw1:=by rw[q3]at y3;simpa using y3
    simp[A.zck,hr,h7,bU,hlen,q1,q2,q3,q4,jL,y4,y6]
    refine ax (Zs q5 (hx s (cm hc)).1 (hx s (cm hc)).2) ?_
    rintro _ h3 n3 k3 rfl
    have kk:=hK.trans k3
    by_cases h0:fI s n=0
    ·rw[aF h0]at hz
     simp(disch:=first|(simp;done)|omega|rfl) [hf,h7,h0,hW]
     exact⟨m,by omega,kk,k+1,by omega,by simp,by simpa using hz⟩
    ·rw[ar h0]at hz
     simp[hf,h0,hW,hz]
     exact kk
  ·rintro _ r ⟨H,n1,W⟩ hr ⟨hW,hK,⟨rfl,hz⟩|⟨rfl,h2⟩⟩
   ·simp only at hW hK
    simp[hz,aA,hW,hK]
   ·simp only at hW hK
    simp[h2,aA,hW,hK]
def A.zcd:aq:=.seq (sr [mv 4 3,mv 5 0,ln 6 5,bi 7 .lss 4 6]
 (cd 7
 (.skip)
 (.exit 0)))
 (.seq (.block 1 (sr [mv 10 0,mv 11 3,ia 12 1 10 11,ld 13 12,c1 14 110 13,ni 15 14 0]
 (cd 15
 (sr [mc 2 4]
 (.ret))
 (.skip))))
 (.aL [mv 8 3,bc 9 .add 8 1,mv 3 9]))
def A.b97:aq:=sr [mc 2 0]
 (.seq (sr [mc 3 0]
 (.block 0 (.loop A.zcd)))
 (sr [mc 2 0]
 (.ret)))
theorem A.c97:A.F 97=some ⟨16,[.tmp 2],A.b97⟩:=by kernel_rfl
def A.k97:=@A.kk 97 _ _ _ A.c97 rfl
def ke(l:List Rat):Bool:=l.any tj
theorem Nd{h:T O}{N:Nat}{v:V}{l:List Rat}{w:List Nat}(hs:Tx h N v l)(hl:l.length<100000)(r_:∀q∈l,(aN q).length<1000000):A.C.call (.func 97 [] []) [v] ⟨h,N,w⟩=some (.int .i64 (if ke l=true then 4 else 0),⟨h,N,w⟩):=by
 apply Call.eq
 have hlen:=hs.len
 rw[aP,A.k97 (by simp)]
 simp[A.b97]
 refine bN [(2,15)] (fun e r st=>st=⟨h,N,[]⟩/\((e=.exit 0/\ke l=false)\/(e=.ret/\ke l=true/\r.get 2=some (.int .i64 4)))) (fun m r st=>st=⟨h,N,[]⟩/\∃k,k+m=l.length/\r.get 3=some (.int .i64 k)/\ke l=ke (l.drop k)) l.length ?_ ?_ ?_
 ·exact⟨rfl,0,by omega,by simp,by simp⟩
 ·rintro m r _ hr hf ⟨rfl,k,hk,h7,hz⟩
  rw[bn]
  cases m with
  |zero=>
   obtain rfl:k=l.length:=by omega
   rw[lP]at hz
   simp[ke]at hz
   simp[A.zcd,hr,hf,h7,hlen]
   simpa[ke]using hz
  |succ m=>
   have aB:k<l.length:=by omega
   obtain⟨q,hc⟩:=bs aB
   obtain⟨i,o,cc,e,rw,q1,q2,q3,q4⟩:=Sl.at hs (wz hc)
   rw[fP hc]at hz
   have bU:(k:Int)<(l.length:Int):=by omega
   have Mj:=fun st=>Ycr (st:=st) (r_ q (cm hc))
   by_cases h0:tj q=true
   ·have e1:ke l=true:=by rw[hz];simp[ke,h0]
    rw[aF h0]at Mj
    simp[A.zcd,hr,hf,h7,bU,hlen,q1,q3,q4,Mj,e1]
   ·have e1:ke l=ke (l.drop (k+1)):=by rw[hz];simp[ke,h0]
    rw[ar h0]at Mj
    simp(disch:=first|(simp;done)|omega|rfl) [A.zcd,hr,hf,h7,bU,hlen,q1,q3,q4,Mj]
    exact⟨m,by omega,k+1,by omega,by simp,e1⟩
 ·rintro _ r _ hr ⟨rfl,⟨rfl,hz⟩|⟨rfl,hz,h2⟩⟩
  ·simp[hz]
  ·simp[h2,hz]
variable {N:Nat} {h:T O} {v:V}
def A.zcl:aq:=sr [bi 11 .lss 10 9]
 (.seq (cd 11
 (.skip)
 (.exit 0))
 (.seq (.block 1 (sr [ia 12 1 8 10,ld 13 12,mv 6 13]
 (sr [mv 14 1,mv 15 6,⟨(some 16),.call (.tmp 14) [(.tmp 15)],none⟩,mv 7 16]
 (sr [mv 17 7,ni 18 17 0]
 (cd 18
 (sr [mv 19 7,mv 4 19]
 (.ret))
 (.skip))))))
 (.aL [bc 20 .add 10 1,mv 10 20])))
def A.b84:aq:=sr [mc 4 0]
 (.seq (sr [mv 8 0,ln 9 8,mc 10 0]
 (.block 0 (.loop A.zcl)))
 (sr [mc 4 0]
 (.ret)))
theorem A.c84:A.F 84=some ⟨21,[.tmp 4],A.b84⟩:=by kernel_rfl
def A.k84:=@A.kk 84 _ _ _ A.c84 rfl
def A.b68:aq:=sr [mc 4 0]
 (.seq (sr [mv 5 0,ln 6 5,mv 7 1,⟨(some 8),.bin .neq (.aH .int) false (.tmp 6) (.tmp 7),none⟩]
 (cd 8
 (sr [mc 4 2]
 (.ret))
 (.skip)))
 (sr [mv 9 0,⟨(some 10),.call (.const (.func 84 [] [])) [(.tmp 9),(.const (.func 151 [] []))],none⟩,mv 4 10]
 (.ret)))
theorem A.c68:A.F 68=some ⟨11,[.tmp 4],A.b68⟩:=by kernel_rfl
def A.k68:=@A.kk 68 _ _ _ A.c68 rfl
def A.zcm:aq:=sr [bi 11 .lss 10 9]
 (.seq (cd 11
 (.skip)
 (.exit 0))
 (.seq (.block 1 (sr [ia 12 1 8 10,ld 13 12,mv 6 13]
 (sr [mv 14 6,mv 15 1,c2 16 68 14 15,mv 7 16]
 (sr [mv 17 7,ni 18 17 0]
 (cd 18
 (sr [mv 19 7,mv 4 19]
 (.ret))
 (.skip))))))
 (.aL [bc 20 .add 10 1,mv 10 20])))
def A.b78:aq:=sr [mc 4 0]
 (.seq (sr [mv 8 0,ln 9 8,mc 10 0]
 (.block 0 (.loop A.zcm)))
 (sr [mc 4 0]
 (.ret)))
theorem A.c78:A.F 78=some ⟨21,[.tmp 4],A.b78⟩:=by kernel_rfl
def A.k78:=@A.kk 78 _ _ _ A.c78 rfl
theorem Ymf{f:V}{l:List aX}(P:aX->Int)(hs:Sl h N v (strs l))(hl:l.length<100000)(hf:∀s∈l,∀h' n',ab h N h' n'->q9 A.C f [.str s] h' n' (fun u _ _=>u=.int .i64 (P s))):Fn A.C 84 [v,f] h N (fun u _ _=>u=.int .i64 (bV (l.map P))):=by
 intro w
 have hlen:=hs.len
 rw[rE]at hlen
 rw[aP,A.k84 (by simp)]
 simp[A.b84,hlen]
 refine bN [(4,4),(6,7),(10,20)] (fun e r st=>au N st.w=[]/\ab h N st.h st.n/\((e=.exit 0/\bV (l.map P)=0)\/(e=.ret/\r.get 4=some (.int .i64 (bV (l.map P)))))) (fun m r st=>au N st.w=[]/\ab h N st.h st.n/\∃k,k+m=l.length/\r.get 10=some (.int .i64 k)/\bV (l.map P)=bV ((l.drop k).map P)) l.length ?_ ?_ ?_
 ·exact⟨by simp,ab.refl,0,by omega,by simp,by simp⟩
 ·rintro m r ⟨H,n1,W⟩ hr dX ⟨hW,hK,k,hk,h7,hz⟩
  simp only at hW hK
  rw[bn]
  cases m with
  |zero=>
   obtain rfl:k=l.length:=by omega
   rw[lP,ql,bV]at hz
   simp[A.zcl,hr,dX,h7,hz,hW,hK]
  |succ m=>
   have aB:k<l.length:=by omega
   obtain⟨s,hc⟩:=bs aB
   obtain⟨i,o,cc,e,rw,q1,q2,q3,q4⟩:=(hs.ad hK).at (zW hc)
   rw[fP hc,jU,bV]at hz
   have bU:(k:Int)<(l.length:Int):=by omega
   simp[A.zcl,hr,h7,bU,hlen,q1,q3,q4]
   refine Dk (hf s (cm hc) _ _ hK) ?_
   rintro _ h3 n3 k3 rfl
   have kk:=hK.trans k3
   by_cases h0:P s=0
   ·rw[aF h0]at hz
    simp(disch:=first|(simp;done)|omega|rfl) [dX,h7,h0,hW]
    exact⟨m,by omega,kk,k+1,by omega,by simp,by simpa using hz⟩
   ·rw[ar h0]at hz
    simp[dX,h0,hW,hz]
    exact kk
 ·rintro _ r ⟨H,n1,W⟩ hr ⟨hW,hK,⟨rfl,hz⟩|⟨rfl,h2⟩⟩
  ·simp only at hW hK
   simp[hz,aA,hW,hK]
  ·simp only at hW hK
   simp[h2,aA,hW,hK]
theorem ZD{l:List aX}{n:Nat}(hs:Sl h N v (strs l))(hl:l.length<100000)(r_:∀s∈l,s.length<=100000):Fn A.C 68 [v,.int .i64 n] h N (fun u _ _=>u=.int .i64 (fI l n)):=by
 intro w
 have hlen:=hs.len
 rw[rE]at hlen
 rw[aP,A.k68 (by simp)]
 by_cases c:l.length=n
 ·subst c
  simp[A.b68,hlen]
  refine ax (Ymf (fun s=>((bW s:Nat):Int)) hs hl fun s hs h' n' _=>Yh1 (r_ s hs)) ?_
  rintro _ H2 n2 k2 rfl
  simp[aA,fI]
  exact k2
 ·have c':¬(l.length:Int)=(n:Int):=by omega
  simp[A.b68,hlen,c',fI,c,aA]
  exact ab.refl
theorem Yf3{l:List (List aX)}{n:Nat}(hs:gI h N v l)(hl:l.length<100000)(hx:∀x∈l,x.length<100000/\∀s∈x,s.length<=100000):Fn A.C 78 [v,.int .i64 n] h N (fun u _ _=>u=.int .i64 (bV (l.map fun x=>fI x n))):=by
 intro w
 have hlen:=hs.len
 rw[aP,A.k78 (by simp)]
 simp[A.b78,hlen]
 refine bN [(4,4),(6,7),(10,20)] (fun e r st=>au N st.w=[]/\ab h N st.h st.n/\((e=.exit 0/\bV (l.map (fun x=>fI x n))=0)\/(e=.ret/\r.get 4=some (.int .i64 (bV (l.map (fun x=>fI x n))))))) (fun m r st=>au N st.w=[]/\ab h N st.h st.n/\∃k,k+m=l.length/\r.get 10=some (.int .i64 k)/\bV (l.map (fun x=>fI x n))=bV ((l.drop k).map (fun x=>fI x n))) l.length ?_ ?_ ?_
 ·exact⟨by simp,ab.refl,0,by omega,by simp,by simp⟩
 ·rintro m r ⟨H,n1,W⟩ hr dX ⟨hW,hK,k,hk,h7,hz⟩
  simp only at hW hK
  rw[bn]
  cases m with
  |zero=>
   obtain rfl:k=l.length:=by omega
   rw[lP,ql,bV]at hz
   simp[A.zcm,hr,dX,h7,hz,hW,hK]
  |succ m=>
   have aB:k<l.length:=by omega
   obtain⟨s,hc⟩:=bs aB
   obtain⟨i,o,cc,e,rw,u,q1,q2,q3,q4,q5⟩:=(hs.ad hK).at hc
   rw[fP hc,jU,bV]at hz
   have bU:(k:Int)<(l.length:Int):=by omega
   simp[A.zcm,hr,h7,bU,hlen,q1,q3,q4]
   refine ax (ZD q5 (hx s (cm hc)).1 (hx s (cm hc)).2) ?_
   rintro _ h3 n3 k3 rfl
   have kk:=hK.trans k3
   by_cases h0:fI s n=0
   ·rw[aF h0]at hz
    simp(disch:=first|(simp;done)|omega|rfl) [dX,h7,h0,hW]
    exact⟨m,by omega,kk,k+1,by omega,by simp,by simpa using hz⟩
   ·rw[ar h0]at hz
    simp[dX,h0,hW,hz]
    exact kk
 ·rintro _ r ⟨H,n1,W⟩ hr ⟨hW,hK,⟨rfl,hz⟩|⟨rfl,h2⟩⟩
  ·simp only at hW hK
   simp[hz,aA,hW,hK]
  ·simp only at hW hK
   simp[h2,aA,hW,hK]
end Go.Mx
