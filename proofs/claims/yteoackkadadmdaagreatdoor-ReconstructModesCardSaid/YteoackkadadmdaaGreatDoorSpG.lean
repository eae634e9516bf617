/-lensletref05-/
import Derived.Test.YteoackkadadmdaaGreatDoorSvF
set_option linter.all false
namespace Go.Mx
open Go Go.Proofs
variable {N:Nat} {h:T O} {l:List Rat}
set_option maxRecDepth 1000000
def A.nz:av:=.seq (sr [mv 4 3,mv 5 0,ln 6 5,bi 7 .lss 4 6,mv 8 7,mg 9 0 8,mg 10 3 8,gy 11 8 (.aU 1 (tq 9) (tq 10)),gy 12 8 (.load none (tq 11)),gy 13 8 (.call (fq 181) [tq 12]),pf 14 8 13]
 (cd 14
 (.skip)
 (.exit 0)))
 (.block 1 (.aR [mv 15 3,bc 16 .add 15 1,mv 3 16]))
def A.b125:av:=sr [mc 2 0]
 (sr [mc 3 0]
 (.seq (.block 0 (.loop A.nz))
 (sr [mv 17 3,mv 2 17]
 (.ret))))
def A.c125:A.F 125=some ⟨18,[.tmp 2],A.b125⟩:=by kernel_rfl
def A.k125:=@A.kk 125 _ _ _ A.c125 rfl
def A.rf:av:=.seq (sr [mv 5 4,mv 6 0,bi 7 .lss 5 6]
 (cd 7
 (.skip)
 (.exit 0)))
 (.seq (.block 1 (.aR [mv 10 3,ge 11 (.aV 40 1 1 [(.str [])] [(0,1,(.const (.str [48])))]),ge 12 (.append 1 16 40 [(.str [])] (tq 10) (tq 11)),mv 3 12]))
 (.aR [mv 8 4,bc 9 .add 8 1,mv 4 9]))
def A.b123:av:=sr [mN 2]
 (sr [mN 3]
 (.seq (sr [mc 4 0]
 (.block 0 (.loop A.rf)))
 (sr [mv 13 3,mv 2 13]
 (.ret))))
def A.c123:A.F 123=some ⟨14,[.tmp 2],A.b123⟩:=by kernel_rfl
def A.k123:=@A.kk 123 _ _ _ A.c123 rfl
def Yg9{w:List Nat}{v:V}(hs:Tx h N v l)(hl:l.length<100000):A.C.call (.func 125 [] []) [v] ⟨h,N,w⟩=some (.int .i64 (yn l 0 l.length),⟨h,N,w⟩):=by
 apply Call.eq
 have lg:=Tx.len hs
 rw[aO,A.k125 (by simp)]
 simp[A.b125]
 refine bP [(3,16)] (fun e r st=>st=⟨h,N,[]⟩/\e=.exit 0/\r.get 3=some (.int .i64 (yn l 0 l.length))) (fun m r st=>st=⟨h,N,[]⟩/\∃k,k+m=l.length/\r.get 3=some (.int .i64 k)/\yn l 0 l.length=yn l k m) l.length ?_ ?_ ?_
 ·exact⟨rfl,0,by omega,by simp,rfl⟩
 ·rintro m r _ hr hf ⟨rfl,k,hk,h3,hz⟩
  rw[bq]
  cases m with
  |zero=>
   obtain rfl:k=l.length:=by omega
   have vj:yn l l.length 0=l.length:=rfl
   rw[vj]at hz
   simp[A.nz,hr,hf,h3,lg]
   exact hz.symm
  |succ m=>
   have ay:k<l.length:=by omega
   have bR:(k:Int)<(l.length:Int):=by omega
   obtain⟨q,hc⟩:=bp ay
   obtain⟨i,o,cc,e,rw,q1,q2,q3,q4⟩:=hs.at (wu hc)
   have Fg:=fun st=>Zl (q:=q) (st:=st)
   have ed:yn l k (m+1)=if q≠0 then k else yn l (k+1) m:=by
    show (if l[k]?.getD 0≠0 then k else yn l (k+1) m)=_
    rw[hc]
    rfl
   rw[ed]at hz
   by_cases c4:q=0
   ·rw[ar (by simpa using c4)]at hz
    simp only[decide_eq_true c4]at Fg
    simp(disch:=first|(simp;done)|omega|rfl) [A.nz,hr,hf,h3,bR,lg,q1,q3,q4,Fg]
    exact⟨m,by omega,k+1,by omega,by simp,hz⟩
   ·rw[aF c4]at hz
    simp only[decide_eq_false c4]at Fg
    simp[A.nz,hr,hf,h3,bR,lg,q1,q3,q4,Fg,hz]
 ·rintro e r _ hr ⟨rfl,rfl,h3⟩
  simp[h3]
def Np{l:List V}:(l.map fun y=>[y]).flatten=l:=by
 induction l with
 |nil=>rfl
 |cons a t ih=>simp[ih]
structure Jw (h:T O) (N R:Nat) (l:List Rat):Prop where
 lt:R<N
 get:h.get R=some (.cells (tx l) 40 true)
def Jw.put{R j:Nat}{q:Rat}(s:Jw h N R l)(hj:j<l.length):ad (tx l) j [.str (a_ q)]=tx (l.set j q)/\Jw (h.set R (.cells (tx (l.set j q)) 40 true)) N R (l.set j q):=by
 refine⟨?_,s.lt,by rw[T.ag,aF rfl]⟩
 rw[Bw (by rw[oT];exact hj)]
 simp[tx,strs,List.map_set]
def Jw.Fh{R:Nat}(s:Jw h N R l):sF h N (.slice R 0 l.length none 1) l:=⟨Sl.row s.lt s.get (oT l) (fun k hk=>by cases hk),fun i hi=>by
 simp[cR]at hi
 subst hi
 exact⟨_,_,s.get⟩⟩
def Ybv{n:Nat}(h0:0<n)(hn:n<1000):Fn A.C 123 [.int .i64 n] h N (fun x h' n'=>∃R,x=.slice R 0 n none 1/\N<=R/\Jw h' n' R ((List.range n).map fun _=>0)):=by
 intro w
 rw[aO,A.k123 (by simp)]
 simp[A.b123]
 refine bP [(3,12)] (fun e r st=>e=.exit 0/\ax N st.w=[]/\ab h N st.h st.n/\∃v,r.get 3=some v/\Own 1 40 N st.h st.n v ((tx ((List.range n).map fun _=>0)).map fun y=>[y])) (fun m r st=>ax N st.w=[]/\ab h N st.h st.n/\∃t v,t+m=n/\r.get 4=some (.int .i64 t)/\r.get 3=some v/\Own 1 40 N st.h st.n v ((tx ((List.range t).map fun _=>0)).map fun y=>[y])) n ?_ ?_ ?_
 ·exact⟨by simp,ab.refl,0,_,by omega,by simp,by simp,Own.nil⟩
 ·rintro m r ⟨H,n1,W⟩ hr hf ⟨hW,hK,t,v,ht,h4,h3,hO⟩
  simp only at hW hK hO
  rw[bq]
  have le:=hK.le
  cases m with
  |zero=>
   obtain rfl:t=n:=by omega
   simp[A.rf,hr,hf,h3,h4,hW,hK]
   exact hO
  |succ m=>
   have ay:t<n:=by omega
   have bn:(t:Int)<(n:Int):=by omega
   have pq:ad [V.str []] 0 [.str [48]]=[.str [48]]:=rfl
   have kD:ab H n1 (H.set n1 (.cells [.str [48]] 40 true)) (n1+1):=ab.refl.new _
   obtain⟨v',h',w',j1,j2,j3,_,j5⟩:=sE (x:=[.str [48]]) (u:=.slice n1 0 1 (some 1) 1) (bytes:=16) (w:=W) (hO.ae kD) (by omega) (by decide) rfl (by simp[eD,St.row,aE]) (by simp[tx,strs];omega)
   have kF:ab h N h' (n1+1+1):=(hK.trans kD).then j3
   simp(disch:=first|(simp;done)|omega|rfl) [A.rf,hr,hf,h3,h4,bn,pq,yl,j1,j2,hW,kF]
   refine⟨m,by omega,t+1,by omega,by simp,?_⟩
   have e:(tx ((List.range (t+1)).map fun _=>(0:Rat))).map (fun y=>[y])=(tx ((List.range t).map fun _=>(0:Rat))).map (fun y=>[y])++[[.str [48]]]:=by
    rw[List.range_succ,List.map_append]
    simp[tx,strs]
    rfl
   rw[e]
   exact j5
 ·rintro _ r ⟨H,n1,W⟩ hr ⟨rfl,hW,hK,v,h3,hO⟩
  simp only at hW hK hO
  obtain⟨hl,⟨hz,_⟩|⟨R,rfl,h1,h2,h3'⟩⟩:=hO
  ·have:=congrArg List.length hz
   simp[tx,strs]at this
   omega
  ·simp[h3,az,hW,hK]
   refine⟨R,⟨rfl,by rw[oT];simp⟩,h1,h2,?_⟩
   rw[h3',Np]
variable {N:Nat} {h:T O} {v:V}
def A.xq:av:=.seq (sr [mv 13 6,mv 14 0,mv 15 5,ia 16 1 14 15,ld 17 16,ln 18 17,bi 19 .lss 13 18]
 (cd 19
 (.skip)
 (.exit 2)))
 (.seq (.block 3 (sr [mv 22 0,mv 23 5,ia 24 1 22 23,ld 25 24,mv 26 6,ia 27 1 25 26,ld 28 27,ge 29 (.len 0 (tq 28)),mv 30 1,bi 31 .gtr 29 30]
 (cd 31
 (sr [ge 4 (.ba (.const (.bool false)))]
 (.ret))
 (.skip))))
 (.aR [mv 20 6,bc 21 .add 20 1,mv 6 21]))
def A.Ao:av:=.seq (sr [mv 7 5,mv 8 0,ln 9 8,bi 10 .lss 7 9]
 (cd 10
 (.skip)
 (.exit 0)))
 (.seq (.block 1 (sr [mc 6 0]
 (.block 2 (.loop A.xq))))
 (.aR [mv 11 5,bc 12 .add 11 1,mv 5 12]))
def A.b6:av:=sr [ge 4 (.ba (.const (.bool false)))]
 (.seq (sr [mc 5 0]
 (.block 0 (.loop A.Ao)))
 (sr [ge 4 (.ba (.const (.bool true)))]
 (.ret)))
def A.c6:A.F 6=some ⟨32,[.tmp 4],A.b6⟩:=by kernel_rfl
def A.k6:=@A.kk 6 _ _ _ A.c6 rfl
def Nr(n:Nat)(x:List aQ):Bool:=x.all fun s=>decide (s.length<=n)
def HD(n:Nat)(l:List (List aQ)):Bool:=l.all (Nr n)
def Yji{n:Nat}{w:List Nat}{l:List (List aQ)}(hs:eP h N v l)(hl:l.length<100000)(hx:∀x∈l,x.length<100000):A.C.call (.func 6 [] []) [v,.int .i64 n] ⟨h,N,w⟩=some (.bool (HD n l),⟨h,N,w⟩):=by
 apply Call.eq
 have lg:=hs.len
 rw[aO,A.k6 (by simp)]
 simp[A.b6]
 refine bP [(4,31)] (fun e r st=>st=⟨h,N,[]⟩/\((e=.exit 0/\HD n l=true)\/(e=.ret/\HD n l=false/\r.get 4=some (.bool false)))) (fun m r st=>st=⟨h,N,[]⟩/\∃k,k+m=l.length/\r.get 5=some (.int .i64 k)/\HD n l=(l.drop k).all (Nr n)) l.length ?_ ?_ ?_
 ·exact⟨rfl,0,by omega,by simp,rfl⟩
 ·rintro m r _ hr hf ⟨rfl,k,hk,h5,hz⟩
  rw[bq]
  cases m with
  |zero=>
   obtain rfl:k=l.length:=by omega
   rw[mm,List.all_nil]at hz
   simp[A.Ao,hr,hf,h5,lg,hz]
  |succ m=>
   have ay:k<l.length:=by omega
   have bR:(k:Int)<(l.length:Int):=by omega
   obtain⟨x,Ly⟩:=bp ay
   have A2:=hx x (cm Ly)
   obtain⟨i,o,cc,e,rw,u,q1,q2,q3,q4,q5⟩:=hs.at Ly
   have lu:=q5.len
   rw[tD]at lu
   rw[jq Ly,List.all_cons]at hz
   simp[A.Ao,hr,h5,lg,bR]
   refine bP [(4,4),(6,6),(13,31)] (fun e r' st=>st=⟨h,N,[]⟩/\((e=.exit 2/\Nr n x=true)\/(e=.ret/\Nr n x=false/\r'.get 4=some (.bool false)))) (fun m' r' st=>st=⟨h,N,[]⟩/\∃t,t+m'=x.length/\r'.get 6=some (.int .i64 t)/\Nr n x=(x.drop t).all fun s=>decide (s.length<=n)) x.length ?_ ?_ ?_
   ·exact⟨rfl,0,by omega,by simp,rfl⟩
   ·rintro m' r' _ km zW ⟨rfl,t,ht,h6,hy⟩
    rw[bq]
    cases m' with
    |zero=>
     obtain rfl:t=x.length:=by omega
     rw[mm,List.all_nil]at hy
     simp[A.xq,km,zW,hr,h5,h6,lg,bR,lu,q1,q3,q4,hy]
    |succ m'=>
     have cW:t<x.length:=by omega
     have Jd:(t:Int)<(x.length:Int):=by omega
     obtain⟨s,dH⟩:=bp cW
     obtain⟨i2,o2,c2,e2,HN,p1,p2,p3,p4⟩:=q5.at (DM dH)
     rw[jq dH,List.all_cons]at hy
     have e1:((n:Int)<(s.length:Int))=(n<s.length):=by apply propext;omega
     by_cases c:n<s.length
     ·have c':decide (s.length<=n)=false:=by simpa using c
      rw[c',BM]at hy
      simp[A.xq,km,zW,hr,h5,h6,lg,bR,lu,Jd,q1,q3,q4,p1,p3,p4,e1,c,hy]
     ·have c':decide (s.length<=n)=true:=by simpa using c
      rw[c',Bool.true_and]at hy
      simp(disch:=first|(simp;done)|omega|rfl) [A.xq,km,zW,hr,h5,h6,lg,lu,Jd,q1,q3,q4,p1,p3,p4,e1,c]
      exact⟨m',by omega,t+1,by omega,by simp,hy⟩
   ·rintro _ r' _ km ⟨rfl,⟨rfl,hy⟩|⟨rfl,hy,h4⟩⟩
    ·rw[hy,Bool.true_and]at hz
     have Dd:=hf.inner (D':=[(4,4),(6,6),(13,31)]) (by decide) (fun hx=>by simpa[Fx.set]using hx) km
     simp(disch:=first|(simp;done)|omega|rfl) [km,Dd,h5]
     exact⟨m,by omega,k+1,by omega,by simp,hz⟩
    ·rw[hy,BM]at hz
     have Dd:=hf.inner (D':=[(4,4),(6,6),(13,31)]) (by decide) (fun hx=>by simpa[Fx.set]using hx) km
     simp[Dd,h4,hz]
 ·rintro _ r _ hr ⟨rfl,⟨rfl,hz⟩|⟨rfl,hz,h4⟩⟩
  ·simp[hz]
  ·simp[h4,hz]
def EL(B:Nat)(h:T O)(N:Nat)(v:V)(l:List V):Prop:=(∃i,v=.slice i 0 l.length (some l.length) 1/\B<=i/\i<N/\h.get i=some (.cells l 23 true))\/Own 1 23 B h N v (l.map fun y=>[y])
def EL.sl{B:Nat}{l:List V}(s:EL B h N v l):Sl h N v l:=by
 rcases s with⟨i,rfl,_,h2,h3⟩|s
 ·exact Sl.row h2 h3 rfl (fun k hk=>by simp at hk;omega)
 ·exact Sn.one.1 s.sn
def EL.app{B:Nat}{u:V}{l xs:List V}{w:List Nat}(s:EL B h N v l)(h0:0<l.length)(hu:Sl h N u xs)(hB:B<=N)(hb:l.length+xs.length<100000):∃v' h' n' w',gj ⟨h,N,w⟩ 1 24 23 v u=some (v',⟨h',n',w'⟩)/\ab h B h' n'/\ax B w'=ax B w/\N<=n'/\EL B h' n' v' (l++xs):=by
 have lJ:=HX (w:=w) (Sn.one.2 hu)
 rw[jP,Np]at lJ
 by_cases hx:xs.length=0
 ·have lI:=List.length_eq_zero_iff.1 hx
  subst lI
  refine⟨v,h,N,w,?_,⟨hB,fun i _=>rfl⟩,rfl,aW _,by rw[zn];exact s⟩
  rcases s with⟨i,rfl,_⟩|⟨_,⟨hc,_⟩|⟨i,rfl,_⟩⟩
  ·simp[gj,lJ]
  ·rw[List.map_eq_nil_iff]at hc
   rw[hc]at h0
   simp at h0
  ·simp[gj,lJ]
 ·rcases s with⟨i,rfl,b1,b2,b3⟩|s
  ·have Yl:aE l 0 (l.length*1)=some l:=by unfold aE;simp
   refine⟨.slice N 0 (l.length+xs.length) none 1,h.set N (.cells (l++xs) 23 true),N+1,w,?_,⟨by omega,fun j hj=>by rw[T.ag,ar (by omega)]⟩,rfl,by omega,.inr ⟨fun y hy=>by obtain⟨z,_,rfl⟩:=eM.1 hy;rfl,.inr ⟨N,by simp,hB,by omega,by rw[T.ag,aF rfl,Np]⟩⟩⟩
   simp only[gj,lJ,St.row,b3,tJ,St.alloc,Yl]
   rw[ar hx,ar (by rintro(h|h|h)<;>omega),ar (by omega)]
  ·have lx:(xs.map fun y=>[y]).length=xs.length:=jP _
   obtain⟨v',h',w',f1,f2,f3,_,_,f5⟩:=TN (Y:=fun _=>True) (xs:=xs.map fun y=>[y]) (u:=u) (bytes:=24) (w:=w) s (fun hc=>by rw[List.map_eq_nil_iff]at hc;rw[hc]at h0;simp at h0) (fun _ _ _ _=>trivial) hB (by decide) (fun x hx=>by obtain⟨y,_,rfl⟩:=eM.1 hx;rfl) (by rw[lx];omega) (HX (Sn.one.2 hu)) (by rw[jP,lx];omega)
   exact⟨v',h',N+1,w',f1,f3,f2,by omega,.inr (by rw[List.map_append];exact f5)⟩
def vK(h:T O)(N:Nat)(us:List V)(m:List (List aQ)):Prop:=us.length=m.length/\∀(j:Nat) (l:List aQ),m[j]?=some l->∃u,us[j]?=some u/\Sl h N u (strs l)
def vK.app{us vs:List V}{a b:List (List aQ)}(s:vK h N us a)(t:vK h N vs b):vK h N (us++vs) (a++b):=by
 obtain⟨s1,s2⟩:=s
 obtain⟨t1,t2⟩:=t
 refine⟨by simp[s1,t1],fun j l hl=>?_⟩
 by_cases hj:j<a.length
 ·rw[lE hj]at hl
  obtain⟨u,g1,g2⟩:=s2 j l hl
  exact⟨u,by rw[lE (by omega)];exact g1,g2⟩
 ·rw[oV (by omega)]at hl
  obtain⟨u,g1,g2⟩:=t2 _ l hl
  exact⟨u,by rw[oV (by omega),s1];exact g1,g2⟩
def vK.ae{h':T O}{N':Nat}{us:List V}{m:List (List aQ)}(s:vK h N us m)(k:ab h N h' N'):vK h' N' us m:=⟨s.1,fun j l hl=>by
 obtain⟨u,a,b⟩:=s.2 j l hl
 exact⟨u,a,b.ae k⟩⟩
def vK.one{h:T O}{N:Nat}{u:V}{l:List aQ}(s:Sl h N u (strs l)):vK h N [u] [l]:=⟨rfl,fun j x hx=>by
 cases j with
 |zero=>
  obtain rfl:l=x:=by simpa using hx
  exact⟨u,rfl,s⟩
 |succ j=>simp at hx⟩
def Ns{N i:Nat}:∀{w:List Nat},i∈w->i<N->i∈ax N w
 |[],h,_=>by cases h
 |j::w,h,hi=>by
  simp only[ax]
  rcases kv.1 h with rfl|h
  ·rw[aF hi]
   unfold uN
   split
   ·simp_all
   ·exact pn
  ·split
   ·unfold uN
    split
    ·exact Ns h hi
    ·exact o9 _ (Ns h hi)
   ·exact Ns h hi
def Yhp{N B:Nat}{w w':List Nat}(h:ax N w'=ax N w)(hw:ax B w=[])(hB:B<=N):ax B w'=[]:=xy fun i hi=>by
 by_cases e:i<N
 ·have:=Ns hi e
  rw[h]at this
  exact ye hw i (yC this).1
 ·omega
variable {N n:Nat} {h:T O} {u:V}
set_option maxHeartbeats 4000000
def A.ri:av:=.seq (sr [mv 39 9,mv 40 4,bi 41 .lss 39 40]
 (cd 41
 (.skip)
 (.exit 2)))
 (.seq (.block 3 (.seq (sr [mv 44 5,mv 45 9,ia 46 1 44 45,ld 47 46,c1 48 125 47,mv 49 9,ge 50 (.bin .neq (.aM .int) false (tq 48) (tq 49))]
 (cd 50
 (sr [mN 2,ge 3 (.ba (.const (.bool false)))]
 (.ret))
 (.skip)))
 (.aR [mv 51 8,mv 52 5,mv 53 9,ia 54 1 52 53,ld 55 54,mv 56 4,ge 57 (.cQ 1 (tq 55) (some (tq 56)) none none),ge 58 (.aV 23 1 1 [.aa] [(0,1,(tq 57))]),ge 59 (.append 1 24 23 [.aa] (tq 51) (tq 58)),mv 8 59])))
 (.aR [mv 42 9,bc 43 .add 42 1,mv 9 43]))
def A.rj:av:=.seq (sr [mv 12 6,mv 13 4,bi 14 .lss 12 13]
 (cd 14
 (.skip)
 (.exit 0)))
 (.seq (.block 1 (sr [mv 17 4,c1 18 123 17,mv 7 18]
 (sr [mv 19 7,mv 20 6,ia 21 1 19 20,gn (.store 1 (tq 21) (.const (.str [49])))]
 (.aR [mv 22 5,ge 23 (.aV 40 1 0 [] []),mv 24 0,mv 25 6,ia 26 1 24 25,ld 27 26,ge 28 (.append 1 16 40 [(.str [])] (tq 23) (tq 27)),mv 29 7,ge 30 (.append 1 16 40 [(.str [])] (tq 28) (tq 29)),ge 31 (.aV 23 1 1 [.aa] [(0,1,(tq 30))]),ge 32 (.append 1 24 23 [.aa] (tq 22) (tq 31)),mv 5 32]))))
 (.aR [mv 15 6,bc 16 .add 15 1,mv 6 16]))
def A.b53:av:=sr [mN 2,ge 3 (.ba (.const (.bool false)))]
 (sr [mv 10 0,ln 11 10,mv 4 11]
 (sr [mN 5]
 (.seq (sr [mc 6 0]
 (.block 0 (.loop A.rj)))
 (sr [mv 33 5,c1 34 124 33,mv 5 34]
 (.seq (sr [mv 35 5,ln 36 35,mv 37 4,bi 38 .lss 36 37]
 (cd 38
 (sr [mN 2,ge 3 (.ba (.const (.bool false)))]
 (.ret))
 (.skip)))
 (sr [mN 8]
 (.seq (sr [mc 9 0]
 (.block 2 (.loop A.ri)))
 (sr [mv 60 8,mv 2 60,ge 3 (.ba (.const (.bool true)))]
 (.ret)))))))))
def A.c53:A.F 53=some ⟨61,[.tmp 2,.tmp 3],A.b53⟩:=by kernel_rfl
def A.k53:=@A.kk 53 _ _ _ A.c53 rfl
def Ya7{t:Nat}(h:t<n):((List.range n).map fun _=>(0:Rat)).set t (((1:Int):Rat))=yL n t:=by
 unfold yL
 apply List.ext_getElem (by simp)
 intro i h1 h2
 simp only[yh,jP,List.length_range]at h1
 by_cases e:i=t
 ·subst e
  simp
 ·rw[List.getElem_set_ne (Ne.symm e)]
  simp[e]
def Ypb{H:T O}{l:List V}{w:List Nat}(hs:Sl H n u l)(h0:0<l.length)(hl:l.length<100000):gj ⟨H.set n (.cells [] 40 true),n+1,w⟩ 1 16 40 (.slice n 0 0 (some 0) 1) u=some (.slice (n+1) 0 l.length none 1,⟨(H.set n (.cells [] 40 true)).set (n+1) (.cells l 40 true),n+1+1,w⟩):=by
 have kN:ab H n (H.set n (.cells [] 40 true)) (n+1):=ab.refl.new _
 have lJ:=HX (w:=w) ((Sn.one.2 hs).ae kN)
 rw[jP,Np]at lJ
 have hg:(H.set n (.cells [] 40 true)).get n=some (.cells [] 40 true):=by simp
 have bB:l.length≠0:=by omega
 simp only[gj,lJ,tJ,St.row,hg,aE,St.alloc]
 simp[bB]
 omega
def Yhg{N0:Nat}{v:V}{a b:List Rat}{w:List Nat}(s:Own 1 40 N0 h N v ((tx a).map fun y=>[y]))(ha:0<a.length)(hu:Tx h N u b)(h0:0<b.length)(hN:N0<=N)(hl:a.length+b.length<100000):
  ∃v' h' w',gj ⟨h,N,w⟩ 1 16 40 v u=some (v',⟨h',N+1,w'⟩)/\ax N0 w'=ax N0 w/\ab h N0 h' (N+1)/\sF h' (N+1) v' (a++b):=by
 have la:((tx a).map fun y=>[y]).length=a.length:=by rw[jP,oT]
 have lb:((tx b).map fun y=>[y]).length=b.length:=by rw[jP,oT]
 obtain⟨v',h',w',f1,f2,f3,_,_,f5⟩:=TN (Y:=fun _=>True) (xs:=(tx b).map fun y=>[y]) (u:=u) (bytes:=16) (w:=w) s (fun hc=>by rw[hc]at la;simp at la;omega) (fun _ _ _ _=>trivial) hN (by decide) (fun x hx=>by obtain⟨y,_,rfl⟩:=eM.1 hx;rfl) (by rw[lb];exact h0) (by
  have:=HX (w:=w) (Sn.one.2 hu)
  exact this) (by rw[la,lb];omega)
 refine⟨v',h',w',f1,f2,f3,Fk (N0:=N0) ?_⟩
 rw[<-List.map_append]at f5
 have:tx (a++b)=tx a++tx b:=by simp[tx,strs]
 rw[this]
 exact f5
def Yii{H0:T O}{G:List (List Rat)}{W0:List Nat}{r0:T V}(hu:gh H0 N u G)(hG:cD G n)(hl:G.length=n)(h0:0<n)(hn:n<100)(yf:ax N W0=[])(a0:r0.get 0=some u)(a4:r0.get 4=some (.int .i64 n))(a5:r0.get 5=some .aa)(a6:r0.get 6=some (.int .i64 0)):
  Code A.C none (.loop A.rj) ⟨r0,61,[]⟩ ⟨H0,N,W0⟩ (fun e fr st=>e=.exit 0/\ax N st.w=[]/\ab H0 N st.h st.n/\∃r v,Fx [(5,7),(12,32)] r0 61 ⟨r,61,[]⟩/\fr=⟨r,61,[]⟩/\r.get 5=some v/\jf N st.h st.n v (de G (gF n))):=by
 rw[bq]
 have lW:∀t,t<=n->((de G (gF n)).take t).length=t:=fun t ht=>by rw[gm,vL];omega
 refine bP [(5,7),(12,32)] (fun e r st=>e=.exit 0/\ax N st.w=[]/\ab H0 N st.h st.n/\∃v,r.get 5=some v/\jf N st.h st.n v (de G (gF n))) (fun i r st=>ax N st.w=[]/\ab H0 N st.h st.n/\∃t v,t+i=n/\r.get 6=some (.int .i64 t)/\r.get 5=some v/\jf N st.h st.n v ((de G (gF n)).take t)) n ?_ ?_ ?_
 ·exact⟨yf,ab.refl,0,.aa,by omega,a6,a5,jf.nil⟩
 ·rintro i r ⟨H,m,W⟩ hr hf ⟨hW,hK,t,v,ht,h6,h5,hO⟩
  simp only at hW hK hO
  rw[bq]
  have lm:=hK.le
  cases i with
  |zero=>
   obtain rfl:t=n:=by omega
   rw[eZ (by rw[vL];omega)]at hO
   simp[A.rj,hr,hf,a4,h6,h5,hW,hK]
   exact hO
  |succ i=>
   have ay:t<n:=by omega
   have bn:(t:Int)<(n:Int):=by omega
   obtain⟨ga,HE⟩:=bp (l:=G) (k:=t) (by omega)
   have QL:=hG ga (cm HE)
   simp[A.rj,hr,a4,h6,bn]
   refine aA (Ybv h0 (by omega)) ?_
   rintro _ H2 n2 k2 ⟨R,rfl,hR,s2⟩
   have kI:=k2.le
   have lR:=s2.lt
   have gR:=s2.get
   have t1:a_ ((1:Int):Rat)=[49]:=NZ
   obtain⟨y1,y2⟩:=s2.put (j:=t) (q:=((1:Int):Rat)) (by simp;exact ay)
   rw[t1,Ya7 ay]at y1
   rw[Ya7 ay]at y2
   have Jl:t+1<=(tx ((List.range n).map fun _=>(0:Rat))).length:=by rw[oT];simp;omega
   generalize tx ((List.range n).map fun _=>(0:Rat))=X at*
   have kG:ab H m (H2.set R (.cells (tx (yL n t)) 40 true)) n2:=k2.set hR
   obtain⟨i1,o1,c1,e1,w1,x,q1,q2,q3,q4,q5⟩:=(hu.ae (hK.trans kG)).at HE
   have lu:=hu.len
   rw[hl]at lu
   have lq:i1<n2:=by omega
   have d0:¬i1=n2:=by omega
   have lx:(tx ga).length=n:=by rw[oT,QL]
   have Ym:(yL n t).length=n:=Ya8
   generalize hG1:H2.set R (.cells (tx (yL n t)) 40 true)=G1 at*
   have ha1:=Ypb (w:=R::W) q5 (by rw[lx];exact h0) (by rw[lx];omega)
   rw[lx]at ha1
   have kE:ab G1 n2 ((G1.set n2 (.cells [] 40 true)).set (n2+1) (.cells (tx ga) 40 true)) (n2+1+1):=(ab.refl.new _).new _
   have oE:Own 1 40 (n2+1) ((G1.set n2 (.cells [] 40 true)).set (n2+1) (.cells (tx ga) 40 true)) (n2+1+1) (.slice (n2+1) 0 n none 1) ((tx ga).map fun y=>[y]):=⟨fun y hy=>by obtain⟨z,_,rfl⟩:=eM.1 hy;rfl,.inr ⟨n2+1,by rw[jP,lx],by omega,by omega,by rw[T.ag,aF rfl,Np]⟩⟩
   have y3:=y2.Fh.1.ae kE
   generalize hE:(G1.set n2 (.cells [] 40 true)).set (n2+1) (.cells (tx ga) 40 true)=E at*
   rw[Ym]at y3
   obtain⟨z,h3,w3,j1,j2,j3,j4⟩:=Yhg (w:=R::W) oE (by rw[QL];exact h0) y3 (by rw[Ym];exact h0) (by omega) (by rw[QL,Ym];omega)
   have k3:ab H m h3 (n2+1+1+1):=⟨by have:=kG.le;omega,fun i hi=>(j3.get i (by have:=kG.le;omega)).trans ((kG.trans kE).get i hi)⟩
   obtain⟨f1,f2⟩:V.one z=true/\V.cells z=[z]:=⟨Sl.qc j4.1,Sl.fG j4.1⟩
   have pq:ad [V.aa] 0 [z]=[z]:=rfl
   have kD:ab h3 (n2+1+1+1) (h3.set (n2+1+1+1) (.cells [z] 23 true)) (n2+1+1+1+1):=ab.refl.new _
   obtain⟨v',h',w',p1,p2,p3,p4⟩:=jf.push (N0:=N) (x:=.slice (n2+1+1+1) 0 1 (some 1) 1) (w:=w3) ((hO.ae k3).ae kD) (j4.ae kD) (by omega) (by simp[eD,St.row,aE]) (by rw[lW t (by omega)];omega)
   have hw3:ax N w3=[]:=xy fun i hi=>by
    by_cases e:i<n2+1
    ·have:=Ns hi e
     rw[j2]at this
     rcases kv.1 (yC this).1 with rfl|h
     ·omega
     ·exact ye hW i h
    ·omega
   simp[hr,a0,h6,h5,bn,bO,gR,Jl,y1,lu,q1,q3,q4,d0,hG1]
   simp(disch:=first|(simp;done)|omega|rfl) [-V.cells, -V.one,hf,h6,yl,ha1,j1,p1,f1,f2,pq]
   refine⟨i,by omega,by rw[p2];exact hw3,((hK.trans k3).trans kD).then p3,t+1,by omega,by simp,?_⟩
   rw[tE,Ya3 (by omega),HE,Yq4 ay]
   exact p4
 ·rintro _ r ⟨H,m,W⟩ hr ⟨rfl,hW,hK,v,h5,hO⟩
  simp only at hW hK hO
  simp[]
  exact⟨hW,hK,r,⟨hr,rfl,rfl⟩,rfl,v,h5,hO⟩
def Sl.low{M:Nat}{v:V}{l:List V}(s:Sl h N v l)(hm:∀i∈cR v,i<M):Sl h M v l:=by
 rcases s with s|⟨i,o,cp,c,e,rw,rfl,_,q⟩
 ·exact .inl s
 ·exact .inr ⟨i,o,cp,c,e,rw,rfl,hm i (by simp[cR]),q⟩
def Ymb{B:Nat->Nat}{G:List (List Rat)}(hu:gh h N u G)(hG:cD G n)(hl:G.length=n)(h0:0<n)(hn:n<100)(xB:∀i,1<=B i)(Yn:∀k,cX (bf (de G (gF n)) k).1 (B (bf (de G (gF n)) k).2.1))(hB:∀i,i<n->3*B i<=400000000):Fn A.C 53 [u] h N (fun x h' n'=>(xY G n=none/\x=.bg [.aa,.bool false])\/∃H y,xY G n=some H/\x=.bg [y,.bool true]/\gh h' n' y H):=by
 intro w
 have lu:=hu.len
 have hW:=Bo hG (Yo (n:=n)) (by rw[Yp,hl];exact aW _)
 have I:=Fu hW (n:=n+n)
 have hle:=(tG hW (n:=n+n)).2
 rw[vL,hl]at hle
 have wx:=JU (n:=n+n) hW
 rw[aO,A.k53 (by simp)]
 simp[A.b53,lu,hl]
 refine jZ (Yii hu hG hl h0 hn (by simp) (by simp) (by simp) (by simp) (by simp)) ?_
 rintro _ _ ⟨H1,n1,W1⟩ ⟨rfl,DX,k1,r,v,f1,rfl,h5,hO⟩
 simp only at DX k1 hO
 have jm:=f1.aR
 have yi:=k1.le
 simp[h5]
 refine aA (Zyn (c:=n+n) hO.uf hW (by rw[vL];omega) (by rw[vL];omega) (by omega) xB Yn fun i hi _=>hB i (by rw[vL]at hi;omega)) ?_
 rintro x2 H2 n2 k2 u_
 have kI:=k2.le
 have lx:=u_.len
 rw[wx]at lx
 by_cases c1:(bf (de G (gF n)) (n+n)).2.1<n
 ·have c1':((bf (de G (gF n)) (n+n)).2.1:Int)<(n:Int):=by omega
  have hs:xY G n=none:=by unfold xY;rw[ar (fun h=>by omega)]
  simp[jm,lx,c1',az,DX]
  exact⟨k1.trans k2,hs⟩
 ·have hd:(bf (de G (gF n)) (n+n)).2.1=n:=by omega
  rw[hd]at lx wx
  have hm:((qd (de G (gF n)) (n+n)).map (List.drop n)).length=n:=by rw[jP,wx]
  simp[jm,lx,show ¬n<n from Nat.lt_irrefl n,show ¬(n:Int)<(n:Int) by omega]
  refine bP [(2,3),(8,9),(39,59)] (fun e r st=>ax N st.w=[]/\ab H2 n2 st.h st.n/\((e=.exit 2/\(∀i,i<n->(bf (de G (gF n)) (n+n)).2.2[i]?.getD 0=i)/\∃v,r.get 8=some v/\wy n2 st.h st.n v ((qd (de G (gF n)) (n+n)).map (List.drop n)))\/(e=.ret/\(∃i,i<n/\(bf (de G (gF n)) (n+n)).2.2[i]?.getD 0≠i)/\r.get 2=some .aa/\r.get 3=some (.bool false)))) (fun i r st=>ax N st.w=[]/\ab H2 n2 st.h st.n/\∃t v,t+i=n/\r.get 9=some (.int .i64 t)/\r.get 8=some v/\wy n2 st.h st.n v (((qd (de G (gF n)) (n+n)).map (List.drop n)).take t)/\∀i,i<t->(bf (de G (gF n)) (n+n)).2.2[i]?.getD 0=i) n ?_ ?_ ?_
  ·exact⟨by simpa using DX,ab.refl,0,.aa,by omega,by simp,by simp,wy.nil,fun i hi=>absurd hi (Nat.not_lt_zero i)⟩
  ·rintro i r' ⟨H,m,W⟩ km zW ⟨qP,hK,t,v2,ht,h9,h8,hR,hp⟩
   simp only at qP hK hR
   rw[bq]
   have lm:=hK.le
   cases i with
   |zero=>
    obtain rfl:t=n:=by omega
    rw[eZ (by rw[hm];exact aW _)]at hR
    simp[A.ri,km,zW,h9,h8,jm,qP,hK]
    exact⟨hp,hR⟩
   |succ i=>
    have ay:t<n:=by omega
    have bn:(t:Int)<(n:Int):=by omega
    obtain⟨row,ak⟩:=bp (l:=qd (de G (gF n)) (n+n)) (k:=t) (by omega)
    obtain⟨p,Uz,hpc,hpf,_⟩:=Yme hW ak
    have C1:=Oj hW row (cm ak)
    obtain⟨i0,o0,c0,e0,w0,x0,z1,z2,z3,z4,z5⟩:=u_.at ak
    obtain⟨i1,o1,cc,e1,w1,x,q1,q2,q3,q4,q5⟩:=(u_.ae hK).at ak
    have su:=fun w=>Yg9 (w:=w) q5 (by omega)
    rw[hpf]at su
    have lD:(bf (de G (gF n)) (n+n)).2.2[t]?.getD 0=p:=by rw[Uz];rfl
    by_cases cp:p=t
    ·subst cp
     have hxx:x0=x:=by
      rw[q1]at z1
      simp only[al,bF]at z1
      obtain⟨rfl,rfl⟩:=z1
      have:=(hK.get i1 z2).trans z3
      rw[q3]at this
      simp only[al,O.cells.injEq]at this
      obtain⟨rfl,_⟩:=this
      rw[q4]at z4
      exact(pk z4).symm
     subst hxx
     obtain⟨s',e1',QM⟩:=Dj (w:=W) q5 (lo:=n) (hi:=n+n) (by omega) (by rw[oT,C1];exact aW _) (some (.int .i64 n)) none (.inl rfl) (.inr ⟨rfl,by rw[oT,C1]⟩)
     have etx:((tx row).take (n+n)).drop n=tx (row.drop n):=by
      rw[eZ (by rw[oT,C1];exact aW _)]
      simp[tx,strs,List.map_drop]
     rw[etx]at QM
     have lo2:Sl H n2 s' (tx (row.drop n)):=QM.low fun j hj=>by
      rcases z5 with⟨hc,_⟩|⟨i',o',cp',c',e',oC,rfl,iF,_⟩
      ·have:=congrArg List.length hc
       rw[oT,C1]at this
       simp at this
       omega
      ·rw[Zpi e1' j hj]
       exact iF
     obtain⟨MC,Ql⟩:V.one s'=true/\V.cells s'=[s']:=⟨Sl.qc QM,Sl.fG QM⟩
     have pq:ad [V.aa] 0 [s']=[s']:=rfl
     have kD:ab H m (H.set m (.cells [s'] 23 true)) (m+1):=ab.refl.new _
     have kD2:ab H n2 (H.set m (.cells [s'] 23 true)) n2:=⟨aW _,fun j hj=>by rw[T.ag,ar (by omega)]⟩
     have HU:(((qd (de G (gF n)) (n+n)).map (List.drop n)).take p).length<100000:=by rw[gm,hm];omega
     obtain⟨v',h',w',p1,p2,p3,p4⟩:=wy.push (N0:=n2) (x:=.slice m 0 1 (some 1) 1) (w:=W) (hR.ae kD (by omega)) (lo2.ae kD2) (by omega) (by simp[eD,St.row,aE]) HU
     simp(disch:=first|(simp;done)|omega|rfl) [-V.cells, -V.one,A.ri,km,zW,h9,h8,jm,bn,lx,q1,q3,q4,su,AG,e1',MC,Ql,pq,yl,p1]
     refine⟨i,by omega,Yhp p2 qP (by omega),(hK.trans kD).then p3,p+1,by omega,by simp,?_,fun j hj=>?_⟩
     ·rw[tE,gG,ak]
      exact p4
     ·by_cases e:j=p
      ·subst e;exact lD
      ·exact hp j (by omega)
    ·have cp':¬(p:Int)=(t:Int):=by omega
     simp[A.ri,km,zW,h9,h8,jm,bn,lx,q1,q3,q4,su,cp',qP,hK]
     exact⟨t,ay,by rw[lD];exact cp⟩
  ·rintro _ r' ⟨H,m,W⟩ km ⟨qP,hK,⟨rfl,hp,v2,h8,hR⟩|⟨rfl,⟨i,hi,Og⟩,h2,h3⟩⟩
   ·simp only at qP hK hR
    have hs:xY G n=some ((qd (de G (gF n)) (n+n)).map (List.drop n)):=by unfold xY;rw[aF ⟨hd,hp⟩]
    simp[h8,az]
    exact⟨qP,(k1.trans k2).trans hK,_,hs,hR.uf hK.le⟩
   ·simp only at qP hK
    have hs:xY G n=none:=by unfold xY;rw[ar (fun h=>Og (h.2 i hi))]
    simp[h2,h3,az]
    exact⟨qP,(k1.trans k2).trans hK,hs⟩
variable {n:Nat}
set_option maxHeartbeats 2000000
def A.b13:av:=sr [mN 6,ge 7 (.ba (.const (.bool false)))]
 (sr [mv 12 0,mv 13 2,c1 14 50 13,c2 15 51 12 14,c1 16 50 15,mv 8 16]
 (sr [mv 17 8,mv 18 1,c2 19 52 17 18,mv 9 19]
 (sr [mv 21 9,mv 22 8,c1 23 50 22,c2 24 51 21 23,c1 25 53 24,mv 20 25,xt 26 20 0,xt 27 20 1,mv 10 26,mv 11 27]
 (.seq (sr [mv 28 11,ge 29 (.un .not (tq 28))]
 (cd 29
 (sr [mN 6,ge 7 (.ba (.const (.bool false)))]
 (.ret))
 (.skip)))
 (sr [mv 30 10,mv 31 9,c2 32 51 30 31,mv 6 32,ge 7 (.ba (.const (.bool true)))]
 (.ret))))))
def A.c13:A.F 13=some ⟨33,[.tmp 6,.tmp 7],A.b13⟩:=by kernel_rfl
def A.k13:=@A.kk 13 _ _ _ A.c13 rfl
def Ytr:cX (gF n) 1:=fun r hr q hq=>by
 obtain⟨i,_,rfl⟩:=eM.1 hr
 obtain⟨j,_,rfl⟩:=eM.1 hq
 split
 ·exact⟨by decide,by decide⟩
 ·exact Qb.zero
def Yq2{G H:List (List Rat)}{Z:Nat}{B:Nat->Nat}(hG:cD G n)(hl:G.length=n)(Bp:∀k,cX (bf (de G (gF n)) k).1 (B (bf (de G (gF n)) k).2.1))(hZ:B n<=Z)(hs:xY G n=some H):cX H Z/\H.length=n/\cD H n:=by
 have hW:=Bo hG (Yo (n:=n)) (by rw[Yp,hl];exact aW _)
 unfold xY at hs
 split at hs
 ·rename_i hc
  obtain rfl:=pk hs
  refine⟨fun r km q hq=>?_,by rw[jP,JU hW];exact hc.1,fun r km=>?_⟩
  ·obtain⟨z,hz,rfl⟩:=eM.1 km
   exact(Bp (n+n) z (ym hz) q (Im hq)).mono (by rw[hc.1];exact hZ)
  ·obtain⟨z,hz,rfl⟩:=eM.1 km
   rw[xE,Oj hW z hz]
   omega
 ·cases hs
def Yb2{h:T O}{N J K L:Nat}{u v y:V}{D M:List (List Rat)}{w:List Rat}(hu:gh h N u D)(hv:Tx h N v w)(hy:gh h N y M)(hD:cD D n)(hM:cD M n)(hw:w.length=D.length)(oK:0<n)(hn:n<50)(lZ:0<D.length)(hs:D.length<50)(jW:0<M.length)(hk:M.length<50)(qD:cX D K)(qM:cX M J)(qw:∀x∈w,Qb L x)(hJ:1<=J)(hK:1<=K)(hL:1<=L)(hS:D.length*(n*(J+K+1)+1+(n*(J+K+1)+1+L)+1)+1+2*(n*(J+K+1)+1+L+1)<=400000000){B:Nat->Nat}{Z:Nat}(Yq:∀i,1<=B i)(Bp:∀k,cX (bf (de (tu D M w) (gF M.length)) k).1 (B (bf (de (tu D M w) (gF M.length)) k).2.1))(Yr:∀i,i<M.length->3*B i<=400000000)(hZ:B M.length<=Z)(vj:1<=Z)(Wq:(M.length+1)*(Z+(n*(J+K+1)+1+L)+1)<=400000000):Fn A.C 13 [u,v,y] h N (fun x h' n'=>(EM D M w=none/\x=.bg [.aa,.bool false])\/∃H z,EM D M w=some H/\x=.bg [z,.bool true]/\gh h' n' z H):=by
 intro W
 have qS:=Ys hM qD qM hJ hK
 have lS:(k_ D M).length=D.length:=Nt
 have rS:cD (k_ D M) M.length:=QN
 have tt:=Yt hM
 have ts:=Yt rS
 rw[lS]at ts
 have rR:cD (pU D M w) D.length:=by rw[<-hw];exact Yu
 have pe:J+K+1<=n*(J+K+1):=Nat.le_mul_of_pos_left _ oK
 have hinv:=Yp6 (X:=pU D M w) (Nu (D:=D) (M:=M) (w:=w)) Jx jW rR Bq
 have hinv:EM D M w=(xY (tu D M w) M.length).map fun H=>k_ H (fg (pU D M w) D.length):=hinv
 obtain⟨b1,ED⟩:∃b1,b1=n*(J+K+1)+1:=⟨_,rfl⟩
 rw[<-ED]at qS hS Wq
 have qR:=QO qS qw (by omega) hL
 rw[aO,A.k13 (by simp)]
 simp[A.b13]
 refine aA (QP hy hM (by omega) (by omega) jW) ?_
 rintro x1 H1 n1 k1 sW
 simp[]
 refine aA (Yv (c:=M.length) (j:=J) (k:=K) (hu.ae k1) sW.uf (fun r hr=>by rw[sh,hD r hr];exact aW _) QQ (by rw[sh];exact oK) (by omega) (by rw[sh];omega) (by omega) qD (fun r hr=>(EN qM hJ r hr).2) hJ hK (by rw[sh];omega)) ?_
 rw[tt]
 rintro x2 H2 n2 k2 u_
 have k02:=k1.trans k2
 simp[]
 refine aA (QP (n:=M.length) u_ rS (by omega) (by omega) (by omega)) ?_
 rintro x3 H3 n3 k3 Jy
 have k03:=k02.trans k3
 simp[]
 refine aA (Zyk (j:=b1) (k:=L) Jy.uf (hv.ae k03) (fun r hr=>by have:=EN (c:=M.length) qS (by omega) r hr;rw[lS,<-hw]at this;exact this) qw (by omega) (by omega) (by rw[sh];omega) (by omega)) ?_
 rintro x4 H4 n4 k4 Fq
 have k04:=k03.trans k4
 have C2:gh H4 n4 x4 (pU D M w):=Fq.uf
 simp[]
 refine aA (QP (n:=D.length) (Jy.uf.ae k4) (fun r hr=>by rw[QQ r hr,lS]) (by rw[sh];omega) (by omega) (by rw[sh];exact jW)) ?_
 rw[ts]
 rintro x5 H5 n5 k5 Nv
 simp[]
 refine aA (Yv (c:=M.length) (j:=b1) (k:=b1+L) (C2.ae k5) Nv.uf (fun r hr=>by rw[lS,rR r hr];exact aW _) rS (by rw[lS];exact lZ) (by rw[Bq];omega) (by rw[lS];omega) (by omega) qR qS (by omega) (by omega) (by rw[lS];omega)) ?_
 rintro x6 H6 n6 k6 Hd
 have Yw:gh H6 n6 x6 (tu D M w):=Hd
 simp[]
 refine aA (Ymb (B:=B) Yw Nu Jx jW (by omega) Yq Bp Yr) ?_
 rintro x7 H7 n7 k7 Yx
 have k57:=(k5.trans k6).trans k7
 have k07:=k04.trans k57
 rcases Yx with⟨a1,rfl⟩|⟨Hc,z,a1,rfl,a2⟩
 ·rw[a1]at hinv
  simp[az]
  exact⟨k07,hinv⟩
 ·obtain⟨i1,i2,i3⟩:=Yq2 Nu Jx Bp hZ a1
  rw[a1]at hinv
  simp
  have hmul:(M.length+1)*(Z+(b1+L)+1)=M.length*(Z+(b1+L)+1)+(Z+(b1+L)+1):=by rw[iW,Nat.one_mul]
  have xU:b1+L+Z+1=Z+(b1+L)+1:=by omega
  refine aA (Yv (c:=D.length) (j:=b1+L) (k:=Z) a2 (C2.ae k57) (fun r hr=>by rw[Bq,i3 r hr];exact aW _) rR (by rw[Bq];exact jW) (by omega) (by rw[Bq];omega) (by omega) i1 qR (by omega) vj (by rw[Bq,xU];omega)) ?_
  rintro x8 H8 n8 k8 hx8
  simp[az]
  exact⟨k07.trans k8,_,hinv,hx8⟩
set_option maxHeartbeats 1000000
def A.b14:av:=sr [mc 4 0]
 (.seq (sr [mv 5 0]
 (cd 5
 (sr [mv 6 1,mv 4 6]
 (.ret))
 (.skip)))
 (sr [mc 4 0]
 (.ret)))
def A.c14:A.F 14=some ⟨7,[.tmp 4],A.b14⟩:=by kernel_rfl
def A.k14:=@A.kk 14 _ _ _ A.c14 rfl
def Zw2{b:Bool}{e:Int}{st:St}:A.C.call (.func 14 [] []) [.bool b,.int .i64 e] st=some (.int .i64 (if b=true then e else 0),st):=by
 obtain⟨h,N,w⟩:=st
 apply Call.eq
 rw[aO,A.k14 (by simp)]
 cases b with
 |true=>simp[A.b14]
 |false=>simp[A.b14]
variable {N:Nat} {b m:List (List aQ)} {h:T O} {v:V}
def eP.rows(s:eP h N v m):∃us,Sl h N v us/\vK h N us m:=by
 obtain⟨us,a,b,c⟩:=s
 exact⟨us,a,b,c⟩
def vK.mts{us:List V}(s:vK h N us m)(hs:Sl h N v us):eP h N v m:=⟨us,hs,s.1,s.2⟩
def Yui{u:V}{l:List aQ}{w:List Nat}(hl:Sl h N v (strs l))(hm:eP h N u m)(hb:m.length<1000):∃x h' n' w',gj ⟨h.set N (.cells [v] 23 true),N+1,w⟩ 1 24 23 (.slice N 0 1 (some 1) 1) u=some (x,⟨h',n',w'⟩)/\ab h N h' n'/\ax N w'=ax N w/\∃us,us.length=m.length+1/\EL N h' n' x us/\vK h N us ([l]++m):=by
 obtain⟨us,s1,s2⟩:=hm.rows
 have kN:ab h N (h.set N (.cells [v] 23 true)) (N+1):=ab.refl.new _
 have lv:EL N (h.set N (.cells [v] 23 true)) (N+1) (.slice N 0 1 (some 1) 1) [v]:=.inl ⟨N,rfl,aW _,by omega,by rw[T.ag,aF rfl]⟩
 obtain⟨x,h',n',w',f1,f2,f3,_,f5⟩:=lv.app (w:=w) (by simp) (s1.ae kN) (by omega) (by have:=s2.1;simp;omega)
 exact⟨x,h',n',w',f1,kN.then f2,f3,_,by simp[s2.1],f5,(vK.one hl).app s2⟩
def xD{B:Nat}{h1:T O}{u:V}{us:List V}{w:List Nat}(kk:ab h B h1 N)(lv:EL B h1 N v us)(hr:vK h B us m)(h0:0<us.length)(hm:eP h B u b)(hb:us.length+b.length<10000):∃x h' n' w',gj ⟨h1,N,w⟩ 1 24 23 v u=some (x,⟨h',n',w'⟩)/\ab h B h' n'/\ax B w'=ax B w/\eP h' n' x (m++b):=by
 obtain⟨vs,s1,s2⟩:=hm.rows
 obtain⟨x,h',n',w',f1,f2,f3,_,f5⟩:=lv.app (w:=w) h0 (s1.ae kk) kk.le (by have:=s2.1;omega)
 have kF:=kk.then f2
 exact⟨x,h',n',w',f1,kF,f3,((hr.app s2).ae kF).mts f5.sl⟩
def Zw5{k n:Nat}(h:og k n=true)(hn:n<64):k<=66:=Yy h hn
def Yh6{l:List aQ}:yM m l b=if ky m 64 16=0 then bK [sD l m.length 1,tv b (iS m)] else ky m 64 16:=by
 unfold yM C8
 by_cases h:ky m 64 16=0
 ·by_cases h2:sD l m.length 1=0
  ·simp[bK,h,h2]
  ·simp[bK,h,h2]
 ·simp[bK,h]
def Yqu{n k:Nat}(hn:n<=6)(hk:k<=4):(k+1)*(4000000+(n*(100+100+1)+1+100)+1)<=400000000:=by
 have:=uI (show k+1<=5 by omega) (show 4000000+(n*(100+100+1)+1+100)+1<=5000000 by omega)
 omega
def Ymj{m:List (List Rat)}(h:cX m 400000000):∀r∈m,∀q∈r,(a_ q).length<1000000000:=fun r hr q hq=>Zo (h r hr q hq) (by decide)
def Ybo{a c:Nat}(h:mi a c b=true):og b.length a=true/\∀r∈b,eY c r=true:=by
 unfold mi at h
 rw[ib]at h
 exact⟨h.1,fun r hr=>lA.1 h.2 r hr⟩
set_option maxHeartbeats 4000000
def A.Ap:av:=sr [mv 48 0,mv 49 1,mv 50 2,ge 51 (.call (fq 8) [tq 48,tq 49,tq 50]),mv 47 51,xt 52 47 0,xt 53 47 1,mv 7 52,mv 8 53]
 (sr [mv 54 0,c1 55 9 54,mv 9 55]
 (.seq (sr [mv 56 9,ei 57 56 0]
 (cd 57
 (.aX [mv 58 1,mv 59 0,ln 60 59,ge 61 (.call (fq 11) [tq 58,tq 60,.const (.int .i64 1)]),mv 62 2,mv 63 0,ge 64 (.aU 1 (tq 63) (kq 0)),ld 65 64,ln 66 65,c2 67 12 62 66,ge 68 (.aV 3 1 2 [.int .i64 0,.int .i64 0] [(0,1,(tq 61)),(1,1,(tq 67))]),c1 69 10 68,mv 9 69] [0,0,2,7,0,0,32,96,224,511,1023,2047,4095])
 (.skip)))
 (sr [mN 10]
 (.seq (sr [mv 70 9,ei 71 70 0]
 (cd 71
 (sr [mv 73 0,mv 74 1,mv 75 2,ge 76 (.call (fq 13) [tq 73,tq 74,tq 75]),mv 72 76,xt 77 72 0,xt 78 72 1,mv 11 77,mv 12 78]
 (.aR [mv 79 11,mv 80 12,ge 81 (.un .not (tq 80)),ge 82 (.call (fq 14) [tq 81,.const (.int .i64 14)]),mv 10 79,mv 9 82]))
 (.skip)))
 (sr [mv 83 7,mv 84 8,mv 85 10,mv 86 9,ge 87 (.call (fq 15) [tq 83,tq 84,tq 85,tq 86]),mv 88 87,gy 89 88 (.call (fq 7) []),pf 90 88 89,mv 6 90]
 (.ret))))))
def A.b3:av:=sr [ge 6 (.ba (.const (.bool false)))]
 (.seq (sr [mv 13 0,ge 14 (.call (fq 4) [tq 13,.const (.int .i64 5),.const (.int .i64 5)]),ge 15 (.un .not (tq 14)),mv 16 15,mh 17 1 16,gz 18 16 (.call (fq 5) [tq 17,.const (.int .i64 5)]),gz 19 16 (.un .not (tq 18)),pt 20 16 19,mv 21 20,mh 22 2 21,gz 23 21 (.len 1 (tq 22)),gz 24 21 (.bin .gtr (.node []) false (tq 23) (kq 4)),mh 25 24 21,mg 26 2 25,gy 27 25 (.len 1 (tq 26)),gy 28 25 (.bin .leq (.node []) false (tq 27) (kq 16)),gz 29 21 (.pick (tq 25) (tq 28) (.const (.bool false))),pt 30 21 29,mv 31 30,mh 32 2 31,gz 33 31 (.call (fq 4) [tq 32,.const (.int .i64 17),.const (.int .i64 6)]),gz 34 31 (.un .not (tq 33)),pt 35 31 34,mv 36 35,mh 37 1 36,gz 38 36 (.aV 23 1 1 [.aa] [(0,1,(tq 37))]),mh 39 0 36,gz 40 36 (.append 1 24 23 [.aa] (tq 38) (tq 39)),mh 41 2 36,gz 42 36 (.append 1 24 23 [.aa] (tq 40) (tq 41)),gz 43 36 (.call (fq 6) [tq 42,.const (.int .i64 9)]),gz 44 36 (.un .not (tq 43)),pt 45 36 44]
 (cd 45
 (sr [ge 46 (.call (fq 7) []),mv 6 46]
 (.ret))
 (.skip)))
 A.Ap)
def A.c3:A.F 3=some ⟨91,[.tmp 6],A.b3⟩:=by kernel_rfl
def A.k3:=@A.kk 3 _ _ _ A.c3 rfl
def Zwy{h H:T O}{N n:Nat}{W:List Nat}{r0:T V}{u v y:V}{m b:List (List aQ)}{l:List aQ}(kH:ab h N H n)(hW:ax N W=[])(fV:eP h N u m)(fj:Sl h N v (strs l))(kW:eP h N y b)(hP0:kJ h N)(sm:mi 6 6 m=true)(sl:eY 6 l=true)(sb:∀r∈b,eY 6 r=true)(CI:b.length<100000)(h4:b.length<=4\/16<b.length)(a0:r0.get 0=some u)(a1:r0.get 1=some v)(a2:r0.get 2=some y):
  Code A.C none A.Ap ⟨r0,91,[]⟩ ⟨H,n,W⟩ (fun e fr st=>e=.ret/\∃r,fr=⟨r,91,[]⟩/\r.get 6=some (.bool true)/\ax N st.w=[]/\ab h N st.h st.n):=by
 obtain⟨m1,m2⟩:=YN sm
 obtain⟨l1,l2⟩:=HF sl
 have le0:=kH.le
 have hm:=fV.ae kH
 have hl:=fj.ae kH
 have hb:=kW.ae kH
 have hP:=hP0.ae kH
 have b2:∀x∈b,x.length<100000/\∀s∈x,s.length<=100000:=fun x hx=>HF (sb x hx)
 rw[bq]
 simp[A.Ap,a0,a1,a2]
 refine aA (Yjv hm hl hb hP sm sl sb CI h4) ?_
 rintro _ H1 n1 k1 ⟨z,c,rfl,t1⟩
 simp[a0]
 refine aA (Yg4 (hm.ae k1) m1 m2) ?_
 rintro _ H2 n2 k2 rfl
 have j2:=k1.trans k2
 have t2:=t1.ae k2
 have ND:=@Yh6 b m l
 by_cases hE:ky m 64 16=0
 ·have hM:=Y7 hE sm
  rw[aF hE]at ND
  obtain⟨l0,NF⟩:=bp hM.pos
  have lm:=(hm.ae j2).len
  have m0:0<m.length:=hM.pos
  have m0':(0:Int)<(m.length:Int):=by omega
  have en:iS m=l0.length:=by simp[iS,NF]
  simp[hE,a0,a1,lm]
  refine aA (Yrp (n:=m.length) (z:=1) (hl.ae j2) l1 l2) ?_
  rintro _ H3 n3 k3 rfl
  have j3:=j2.trans k3
  obtain⟨i1,o1,c1,e1,w1,x,q1,q2,q3,q4,q5⟩:=(hm.ae j3).at NF
  rw[ka]at q4
  have lx:=q5.len
  rw[tD]at lx
  simp[a0,a2,lm,m0,q1,q2,q3,q4,lx]
  rw[<-en]
  refine aA (Yov (n:=iS m) (hb.ae j3) CI b2) ?_
  rintro _ H4 n4 k4 rfl
  have j4:=j3.trans k4
  have lf:=fun w=>Ynq (h:=H4) (N:=n4+1) (i:=n4) (w:=w) (a0:=sD l m.length 1) (a1:=tv b (iS m)) (by omega)
  rw[<-ND]at lf
  have kD:ab H4 n4 (H4.set n4 (.cells [.int .i64 (sD l m.length 1),.int .i64 (tv b (iS m))] 3 true)) (n4+1):=ab.refl.new _
  simp[ad,lf]
  generalize H4.set n4 (.cells [.int .i64 (sD l m.length 1),.int .i64 (tv b (iS m))] 3 true)=G at*
  have j5:=j4.trans kD
  have t5:=(((t2.ae k3).ae k4).ae kD)
  by_cases hZ:yM m l b=0
  ·obtain⟨_,zl,hL,hB⟩:=Yki hZ sm sl sb h4
   obtain⟨rB,qB⟩:=hB.rat
   have n6:=hM.n6
   have mle:=hM.le
   have ble:=hB.le
   have zaW:=hB.pos
   have lM:(jj m).length=m.length:=N6
   have lB:(jj b).length=b.length:=N6
   have lL:(vP l).length=(jj m).length:=by simp[vP,jj,zl]
   have Hj:=@YM (iS m) (jj m).length n6 (by omega)
   have qM:cX (jj m) 100:=fun r hr=>(hM.rat r hr).2
   have QV:=Ykk rB qM qB hL.qb n6 (by omega) (by omega)
   have hkb:=(Ykj rB qM qB hL.qb n6 (show 0<(jj m).length by omega) (by omega)).1
   simp[hZ,a0,a1,a2]
   refine aA (Yb2 (B:=kB 15103) (Z:=4000000) (n:=iS m) (J:=100) (K:=100) (L:=100) ((hm.ae j5).rat fun r hr=>(hM.row r hr).2) (uc.sl (hl.ae j5) hL) ((hb.ae j5).rat fun r hr=>(hB.row r hr).2) hM.qb.1 rB lL hM.n1 (by omega) (by omega) (by omega) (by omega) (by omega) qM qB hL.qb (by decide) (by decide) (by decide) (by omega) (fun _=>Tl (by decide)) (fun k=>Tn (Ya2 hkb (Ytr.mono (by decide))) (by decide)) (fun i hi=>by have:=@NC i (by omega);omega) (NC (by omega)) (by decide) (Yqu n6 (by omega))) ?_
   rintro x6 H6 n6' k6 Hd
   have j6:=j5.trans k6
   have kF:=kH.trans j6
   have t6:=t5.ae k6
   have yP:=fun w=>JO (w:=w) (hP.ae j6)
   rcases Hd with⟨tU,rfl⟩|⟨Hc,z',tU,rfl,a2'⟩
   ·have hC:vQ m l b=14:=by unfold vQ;rw[aF hZ,aF tU]
    rw[hC]at t6
    have t7:Bx 14 [] z c H6 n6':=by
     rcases t6 with s|⟨a,_⟩
     ·exact .inl s
     ·exact absurd a (by decide)
    have f1:=fun w=>NV (w:=w) (u:=.aa) t7 (fun h=>absurd h (by decide)) (by simp) (fun h=>absurd h (by decide))
    simp[Zw2,f1,yP]
    exact⟨by simp[hW],kF⟩
   ·have hC:vQ m l b=0:=by unfold vQ;rw[aF hZ,tU];rfl
    have hQ:NB m l b=Hc:=by unfold NB;rw[tU];rfl
    rw[hC,hQ]at t6
    obtain⟨s1,s2,s3⟩:=Yda lL QV (fun i hi=>NC (by omega)) tU
    have f1:=fun w=>NV (w:=w) t6 (fun _=>a2') (by omega) (fun _ r hr=>⟨by rw[s3 r hr];omega,Ymj (s1.mono (by decide)) r hr⟩)
    simp[Zw2,f1,yP]
    exact⟨by simp[hW],kF⟩
  ·have hC:vQ m l b=yM m l b:=by unfold vQ;rw[ar hZ]
   rw[hC]at t5
   have t7:Bx (yM m l b) [] z c G (n4+1):=by
    rcases t5 with s|⟨a,_⟩
    ·exact .inl s
    ·exact absurd a hZ
   have f1:=fun w=>NV (w:=w) (u:=.aa) t7 (fun h=>absurd h hZ) (by simp) (fun h=>absurd h hZ)
   have yP:=fun w=>JO (w:=w) (hP.ae j5)
   simp[hZ,f1,yP]
   exact⟨by simp[hW],kH.trans j5⟩
 ·rw[ar hE]at ND
  have hZ:¬yM m l b=0:=by rw[ND];exact hE
  have hC:vQ m l b=ky m 64 16:=by unfold vQ;rw[ar hZ,ND]
  rw[hC]at t2
  have t7:Bx (ky m 64 16) [] z c H2 n2:=by
   rcases t2 with s|⟨a,_⟩
   ·exact .inl s
   ·exact absurd a hE
  have f1:=fun w=>NV (w:=w) (u:=.aa) t7 (fun h=>absurd h hE) (by simp) (fun h=>absurd h hE)
  have yP:=fun w=>JO (w:=w) (hP.ae j2)
  simp[hE,f1,yP]
  exact⟨by simp[hW],kH.trans j2⟩
def Yh0{h:T O}{N:Nat}{u v y:V}{m b:List (List aQ)}{l:List aQ}(hm:eP h N u m)(hl:Sl h N v (strs l))(hb:eP h N y b)(hP:kJ h N)(m1:m.length<9223372036854775808)(m2:∀x∈m,x.length<9223372036854775808)(l1:l.length<9223372036854775808)(b1:b.length<9223372036854775808)(b2:∀x∈b,x.length<9223372036854775808):Fn A.C 3 [u,v,y] h N (fun z _ _=>z=.bool true):=by
 intro w
 have yP:=fun w=>JO (w:=w) hP
 have lb:=hb.len
 have C3:∀w,A.C.call (.func 4 [] []) [u,.int .i64 5,.int .i64 5] ⟨h,N,w⟩=some (.bool (mi 5 5 m),⟨h,N,w⟩):=fun w=>Zwc (w:=w) (n:=5) (p:=5) hm m1 m2 (by decide) (by decide)
 have EO:∀w,A.C.call (.func 5 [] []) [v,.int .i64 5] ⟨h,N,w⟩=some (.bool (eY 5 l),⟨h,N,w⟩):=fun w=>YP (w:=w) (n:=5) hl l1 (by decide)
 have JC:∀w,A.C.call (.func 4 [] []) [y,.int .i64 17,.int .i64 6] ⟨h,N,w⟩=some (.bool (mi 17 6 b),⟨h,N,w⟩):=fun w=>Zwc (w:=w) (n:=17) (p:=6) hb b1 b2 (by decide) (by decide)
 have e4:((4:Int)<(b.length:Int))=(4<b.length):=by apply propext;omega
 have NG:((b.length:Int)<=16)=(b.length<=16):=by apply propext;omega
 rw[aO,A.k3 (by simp)]
 cases sm:mi 5 5 m with
 |false=>
  rw[sm]at C3
  simp[A.b3,C3,yP,az]
  exact ab.refl
 |true=>
  rw[sm]at C3
  cases sl:eY 5 l with
  |false=>
   rw[sl]at EO
   simp[A.b3,C3,EO,yP,az]
   exact ab.refl
  |true=>
   rw[sl]at EO
   by_cases c4:4<b.length/\b.length<=16
   ·simp[A.b3,C3,EO,lb,e4,NG,c4.1,c4.2,yP,az]
    exact ab.refl
   ·have h4:b.length<=4\/16<b.length:=by omega
    have YQ:=Zug sm (show 5<=6 by decide) (show 5<=6 by decide)
    have YR:=Znh sl (show 5<=6 by decide)
    have f1:=hl.form.one
    have f2:=hl.form.cells
    have pq:ad [V.aa] 0 [v]=[v]:=rfl
    cases sb:mi 17 6 b with
    |false=>
     rw[sb]at JC
     rcases h4 with c|c
     ·simp[A.b3,C3,EO,JC,lb,e4,show ¬4<b.length by omega,yP,az]
      exact ab.refl
     ·simp[A.b3,C3,EO,JC,lb,e4,NG,show 4<b.length by omega,show ¬b.length<=16 by omega,yP,az]
      exact ab.refl
    |true=>
     rw[sb]at JC
     obtain⟨sb1,YT⟩:=Ybo sb
     have bl:=Zw5 sb1 (by decide)
     have ml:=Zw5 (Ybo sm).1 (by decide)
     obtain⟨x1,h1,n1,w1,p1,p2,p3,us,p4,p5,p6⟩:=Yui (w:=[]) hl hm (by omega)
     obtain⟨x2,h2,n2,w2,q1,q2,q3,q4⟩:=xD (w:=w1) p2 p5 p6 (by omega) hb (by omega)
     have hB:∀w,A.C.call (.func 6 [] []) [x2,.int .i64 9] ⟨h2,n2,w⟩=some (.bool (HD 9 ([l]++m++b)),⟨h2,n2,w⟩):=fun w=>Yji (w:=w) (n:=9) q4 (by simp;omega) (fun x hx=>by
      rcases kb.1 hx with hx|hx
      ·rcases kb.1 hx with hx|hx
       ·obtain rfl:x=l:=by simpa using hx
        exact(HF YR).1
       ·exact((YN YQ).2 x hx).1
      ·exact(HF (YT x hx)).1)
     have NH:=fun w=>JO (w:=w) (hP.ae q2)
     have A3:ax N w2=[]:=by rw[q3,p3];rfl
     have h4':=h4
     rcases h4' with c|c
     ·skip
      simp[-V.cells, -V.one,A.b3,C3,EO,JC,lb,e4,show ¬4<b.length by omega,f1,f2,pq,yl,p1,q1]
      cases hy:HD 9 ([l]++m++b)with
      |false=>
       rw[hy]at hB
       simp[hB,NH,az]
       exact⟨A3,q2⟩
      |true=>
       rw[hy]at hB
       simp[hB]
       refine jZ (Zwy q2 A3 hm hl hb hP YQ YR YT (by omega) h4 (by simp) (by simp) (by simp)) ?_
       rintro e fr ⟨H6,n6,W6⟩ ⟨rfl,r',rfl,g4,g5,g6⟩
       simp only at g5 g6
       simp[g4,az]
       exact⟨g5,g6⟩
     ·skip
      simp[-V.cells, -V.one,A.b3,C3,EO,JC,lb,e4,NG,show 4<b.length by omega,show ¬b.length<=16 by omega,f1,f2,pq,yl,p1,q1]
      cases hy:HD 9 ([l]++m++b)with
      |false=>
       rw[hy]at hB
       simp[hB,NH,az]
       exact⟨A3,q2⟩
      |true=>
       rw[hy]at hB
       simp[hB]
       refine jZ (Zwy q2 A3 hm hl hb hP YQ YR YT (by omega) h4 (by simp) (by simp) (by simp)) ?_
       rintro e fr ⟨H6,n6,W6⟩ ⟨rfl,r',rfl,g4,g5,g6⟩
       simp only at g5 g6
       simp[g4,az]
       exact⟨g5,g6⟩
end Go.Mx
