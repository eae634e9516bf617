/-
  lensletref01: plus, minus, times.
-/
import Derived.Test.YtlbophlgohokkaaGreatDoorMxRg
import Derived.Test.YtlbophlgohokkaaGreatDoorMxWord
import Derived.Test.YtlbophlgohokkaaGreatDoorMxDec
import Derived.Test.YtlbophlgohokkaaGreatDoorRbA
set_option linter.all false
namespace Go.Mx
open Go Go.Proofs
variable {N:Nat} {h:T O}
set_option maxRecDepth 1000000
def A.b165:aq:=sr [bx 2 175 0,bx 3 175 1,⟨(some 4),.alloc [(.bool false),.aa] 175,none⟩]
 (.seq (sr [fa 5 0 2,ld 6 5,fa 7 0 3,ld 8 7,⟨(some 9),.bin .eql (.aI .bool) false (.tmp 6) (.tmp 8),none⟩]
 (cd 9
 (.seq (.aV [fa 10 0 2,ld 11 10,fa 12 1 2,ld 13 12,fa 14 1 3,ld 15 14,c2 16 235 13 15,c2 17 234 11 16,⟨none,.store 2 (.tmp 4) (.tmp 17),none⟩] [0,1,0,4,0,16,60,127,255])
 (.ret))
 (.skip)))
 (.seq (sr [fa 18 1 2,ld 19 18,fa 20 1 3,ld 21 20,c2 22 236 19 21,bc 23 .geq 22 0]
 (cd 23
 (.seq (.aV [fa 24 0 2,ld 25 24,fa 26 1 2,ld 27 26,fa 28 1 3,ld 29 28,c2 30 237 27 29,c2 31 234 25 30,⟨none,.store 2 (.tmp 4) (.tmp 31),none⟩] [0,1,0,4,0,16,60,127,255])
 (.ret))
 (.skip)))
 (.seq (.aV [fa 32 0 3,ld 33 32,fa 34 1 3,ld 35 34,fa 36 1 2,ld 37 36,c2 38 237 35 37,c2 39 234 33 38,⟨none,.store 2 (.tmp 4) (.tmp 39),none⟩] [0,1,0,4,0,16,60,127,255])
 (.ret))))
theorem A.c165:A.F 165=some ⟨40,[.cell 4 (some 2)],A.b165⟩:=by kernel_rfl
def A.k165:=@A.kk 165 _ _ _ A.c165 rfl
def A.b232:aq:=sr [bx 1 175 0,⟨(some 2),.alloc [(.bool false),.aa] 175,none⟩]
 (sr [fa 3 0 1,ld 4 3,⟨(some 5),.un .not (.tmp 4),none⟩,fa 6 1 1,ld 7 6,c2 8 234 5 7,⟨none,.store 2 (.tmp 2) (.tmp 8),none⟩]
 (.ret))
theorem A.c232:A.F 232=some ⟨9,[.cell 2 (some 2)],A.b232⟩:=by kernel_rfl
def A.k232:=@A.kk 232 _ _ _ A.c232 rfl
def A.b166:aq:=sr [bx 2 175 0,bx 3 175 1,⟨(some 4),.alloc [(.bool false),.aa] 175,none⟩]
 (.seq (.aV [fa 5 0 2,ld 6 5,fa 7 0 3,ld 8 7,⟨(some 9),.bin .neq (.aI .bool) false (.tmp 6) (.tmp 8),none⟩,fa 10 1 2,ld 11 10,fa 12 1 3,ld 13 12,c2 14 238 11 13,c2 15 234 9 14,⟨none,.store 2 (.tmp 4) (.tmp 15),none⟩] [0,1,0,4,15,0,32,0,128,480,1023,2047])
 (.ret))
theorem A.c166:A.F 166=some ⟨16,[.cell 4 (some 2)],A.b166⟩:=by kernel_rfl
def A.k166:=@A.kk 166 _ _ _ A.c166 rfl
theorem OA(k:Nat):pI k=((1000000000^k:Nat):Int):=by unfold pI;simp
theorem Rg.ae{h':T O}{N':Nat}{v:V}{z:Int}(s:Rg h N v z)(k:ab h N h' N'):Rg h' N' v z:=by
 obtain⟨u,h1,h2⟩:=s
 exact⟨u,h1,h2.ae k⟩
theorem im:∀x∈[V.bool false,V.aa],∀k m,x≠.int k m:=by intro x hx k m;simp at hx;rcases hx with rfl|rfl<;>simp
theorem Yn0{b:Bool}{u:V}(hu:BE u):∀x∈[V.bool b,u],∀k m,x≠.int k m:=by
 intro x hx k m
 simp at hx
 rcases hx with rfl|rfl
 ·simp
 ·rcases hu with rfl|rfl|⟨_,_,_,_,_,rfl⟩<;>simp
theorem Zy2(a b:Nat):(ds (a*b)).length<=(ds a).length+(ds b).length:=by
 refine Gd ?_
 have h1:=rW (fA a)
 have h2:=rW (fA b)
 rw[fH]at h1 h2
 rw[OA]at h1 h2
 rw[jH]
 exact zG (Int.ofNat_lt.1 h1) (Int.ofNat_lt.1 h2)
theorem Zv0{v:V}{z:Int}(hs:Rg h N v z)(hl:(ds z.natAbs).length<1099511627776):Fn A.C 232 [v] h N (fun u h' n'=>Rg h' n' u (-z)):=by
 intro w
 obtain⟨u,rfl,hu⟩:=hs
 have o1:=Sl.form hu |>.one
 have o2:=Sl.form hu |>.cells
 unfold V.one at o1
 unfold V.cells at o2
 have kB:=(((ab.refl (h:=h) (n:=N)).new (.cells [.bool (decide (z<0)),u] 175 true)).new (.cells [.bool false,.aa] 175 true))
 rw[aR,A.k232 (by simp)]
 simp[A.b232,o1,aU]
 refine ax (uK (b:=!decide (z<0)) (n:=z.natAbs) (Sl.ae hu kB) (fA _) (fH _) (by omega)) ?_
 rintro v2 h2 n2 k2 hv
 have uA:=k2.le
 have g1:=(k2.get (N+1) (by omega))
 rw[T.ai,aF rfl]at g1
 have kk:=kB.trans k2
 have ez:(if (!decide (z<0))=true then -((z.natAbs:Nat):Int) else ((z.natAbs:Nat):Int))= -z:=by
  by_cases h0:z<0<;>simp[h0]<;>omega
 rw[ez]at hv
 obtain⟨u2,rfl,eS⟩:=hv
 have p1:=Sl.form eS |>.one
 have p2:=Sl.form eS |>.cells
 unfold V.one at p1
 unfold V.cells at p2
 simp[g1,p1,ag,bW,aU,aJ,aA]
 exact⟨kk.set (by omega),u2,by simp,Sl.setInt eS g1 im rfl⟩
theorem Yjl(a b:Int):(if (!(decide (a<0)==decide (b<0)))=true then -((a.natAbs*b.natAbs:Nat):Int) else ((a.natAbs*b.natAbs:Nat):Int))=a*b:=by
 have h0:((a.natAbs*b.natAbs:Nat):Int)=(a.natAbs:Int)*(b.natAbs:Int):=by simp
 rw[h0]
 by_cases h1:a<0<;>by_cases h2:b<0
 ·have ha:(a.natAbs:Int)= -a:=by omega
  have hb:(b.natAbs:Int)= -b:=by omega
  rw[ha,hb];simp[h1,h2,Int.neg_mul,Int.mul_neg]
 ·have ha:(a.natAbs:Int)= -a:=by omega
  have hb:(b.natAbs:Int)=b:=by omega
  rw[ha,hb];simp[h1,h2,Int.neg_mul]
 ·have ha:(a.natAbs:Int)=a:=by omega
  have hb:(b.natAbs:Int)= -b:=by omega
  rw[ha,hb];simp[h1,h2,Int.mul_neg]
 ·have ha:(a.natAbs:Int)=a:=by omega
  have hb:(b.natAbs:Int)=b:=by omega
  rw[ha,hb];simp[h1,h2]
theorem KS{x y:V}{a b:Int}(hx:Rg h N x a)(hy:Rg h N y b)(l1:(ds a.natAbs).length<500000000000)(l2:(ds b.natAbs).length<500000000000):Fn A.C 166 [x,y] h N (fun u h' n'=>Rg h' n' u (a*b)):=by
 intro w
 obtain⟨u,rfl,hu⟩:=hx
 obtain⟨v,rfl,hv⟩:=hy
 have o1:=Sl.form hu |>.one
 have o2:=Sl.form hu |>.cells
 have o3:=Sl.form hv |>.one
 have o4:=Sl.form hv |>.cells
 unfold V.one at o1 o3
 unfold V.cells at o2 o4
 have kB:=((((ab.refl (h:=h) (n:=N)).new (.cells [.bool (decide (a<0)),u] 175 true)).new (.cells [.bool (decide (b<0)),v] 175 true)).new (.cells [.bool false,.aa] 175 true))
 rw[aR,A.k166 (by simp)]
 simp[A.b166,o1,o3,aU,dJ]
 generalize hB:((h.set N (.cells [.bool (decide (a<0)),u] 175 true)).set (N+1) (.cells [.bool (decide (b<0)),v] 175 true)).set (N+1+1) (.cells [.bool false,.aa] 175 true)=HB at*
 have gr:HB.get (N+1+1)=some (.cells [.bool false,.aa] 175 true):=by rw[<-hB];simp
 refine ax (Vg (Sl.ae hu kB) (Sl.ae hv kB) (fA _) (fA _) (fH _) (fH _) (by omega)) ?_
 rintro v1 h1 n1 k1 q1
 have Ap:(ds (a.natAbs*b.natAbs)).length<1152921504606846976:=by
  have:=Zy2 a.natAbs b.natAbs;omega
 simp[]
 refine ax (uK (n:=a.natAbs*b.natAbs) q1 (fA _) (fH _) Ap) ?_
 rintro v2 h2 n2 k2 ew
 have Fi:=k1.le
 have nw:=k2.le
 have g1:=(k2.get (N+1+1) (by omega)).trans ((k1.get (N+1+1) (by omega)).trans gr)
 have ez:(if (!(decide (a<0)==decide (b<0)))=true then -((a.natAbs*b.natAbs:Nat):Int) else ((a.natAbs*b.natAbs:Nat):Int))=a*b:=Yjl a b
 rw[ez]at ew
 obtain⟨u2,rfl,eS⟩:=ew
 have p1:=Sl.form eS |>.one
 have p2:=Sl.form eS |>.cells
 unfold V.one at p1
 unfold V.cells at p2
 simp[g1,p1,ag,bW,aU,aJ,aA,dw.dB]
 exact⟨by split<;>simp[ad],((kB.trans k1).trans k2).set (by omega),u2,rfl,Sl.setInt eS g1 im rfl⟩
set_option maxHeartbeats 4000000
structure SuI (h:T O) (N:Nat) (la lb:List Int) (m:Nat) (r:T V) (st:St):Prop where
 w:ad N st.w=[]
 ae:ab h N st.h st.n
 ex:∃k c out D,k+m=la.length/\r.get 7=some (.int .i64 k)/\r.get 6=some (.int .i64 c)/\r.get 5=some out/\0<=c/\c<=1/\Own 1 3 N st.h st.n out (na D)/\D.length=k/\Di D/\vI D-pI k*c=vI (la.take k)-vI (lb.take k)
theorem Yak{h:T O}{N:Nat}{u v:V}{a b:Nat}(hu:Dn h N u a)(hv:Dn h N v b)(gT:b<=a)(l1:(ds a).length<1099511627776):Fn A.C 237 [u,v] h N (fun x h' n'=>Dn h' n' x (a-b)):=by
 intro w
 have l2:=rG gT
 have da:=fA a
 have db:=fA b
 have va:=fH a
 have vb:=fH b
 have lu:=Sl.len hu
 have lv:=Sl.len hv
 rw[gk]at lu lv
 have hu:Sl h N u (dI (ds a)):=hu
 have hv:Sl h N v (dI (ds b)):=hv
 generalize hA:ds a=la at*
 generalize hB:ds b=lb at*
 rw[aR,A.k237 (by simp)]
 simp[A.b237]
 refine bQ [(5,32)] (fun e r st=>e=.exit 0/\SuI h N la lb 0 r st) (SuI h N la lb) la.length ?_ ?_ ?_
 ·exact⟨by simp,ab.refl,0,0,.aa,[],by omega,by simp,by simp,by simp,by omega,by omega,Own.nil,rfl,Di.nil,by simp[vI]⟩
 ·rintro m r ⟨H,n1,W⟩ hr hf ⟨hW,hK,k,c,out,D,hk,h7,h6,h5,c0,c1,ho,hD,dD,mw⟩
  simp only at hW hK ho
  rw[bA]
  cases m with
  |zero=>
   obtain rfl:k=la.length:=by omega
   simp[A.kq,hr,hf,h7,lu]
   exact⟨hW,hK,la.length,c,out,D,by omega,by simp[h7],by simp[h6],by simp[h5],c0,c1,ho,hD,dD,mw⟩
  |succ m=>
   have aD:k<la.length:=by omega
   have cK:(k:Int)<(la.length:Int):=by omega
   obtain⟨x,hx⟩:=bV aD
   have dx:=da.get hx
   have dy:=Rk db k
   obtain⟨i,o,cc,e,rw,q1,q2,q3,q4⟩:=(hu.ae hK).at (fU hx)
   have e2:=fun w=>SU (w:=w) (i:=k) (hv.ae hK) (by omega) (by omega)
   obtain⟨y,hy⟩:∃y,zI lb k=y:=⟨_,rfl⟩
   rw[hy]at dy e2
   have t3:bn .i64 (x-y)=x-y:=cj (by omega) (by omega)
   have t4:bn .i64 (x-y-c)=x-y-c:=cj (by omega) (by omega)
   have t5:bn .i64 (x-y-c+1000000000)=x-y-c+1000000000:=cj (by omega) (by omega)
   have hs:∀d c':Int,d-1000000000*c'=x-y-c->vI (D++[d])-pI (k+1)*c'=vI (la.take (k+1))-vI (lb.take (k+1)):=fun d c' he=>by
    rw[zV,hD,vX hx,Rl,hy,rU]
    have:d=x-y-c+1000000000*c':=by omega
    subst this
    grind
   have ap:∀d:Int,∃v' h' w',jQ ⟨H.set n1 (.cells [.int .i64 d] 3 true),n1+1,W⟩ 1 8 3 out (.slice n1 0 1 (some 1) 1)=some (v',⟨h',n1+1+1,w'⟩)/\ad N w'=[]/\ab h N h' (n1+1+1)/\Own 1 3 N h' (n1+1+1) v' (na (D++[d])):=fun d=>by
    have uQ:=ho.ae (ab.refl.new (.cells [.int .i64 d] 3 true))
    obtain⟨v',h',w',f1,f2,f3,_,f5⟩:=pU (x:=[.int .i64 d]) (u:=.slice n1 0 1 (some 1) 1) (bytes:=8) (w:=W) uQ (by have:=hK.le;omega) (by decide) rfl (by simp[eC,St.row,aJ]) (by simp[na];omega)
    rw[<-BF]at f5
    exact⟨v',h',w',f1,by rw[f2];exact hW,(hK.new (.cells [.int .i64 d] 3 true)).then f3,f5⟩
   by_cases dR:x-y-c<0
   ·obtain⟨v',h',w',f1,f2,f3,f5⟩:=ap (x-y-c+1000000000)
    simp[A.kq,hr,h7,h6,h5,lu,cK,q1,q2,q3,q4,e2,t3,t4,t5,dR,ag,dw.dB]
    simp(disch:=first|(simp;done)|omega|rfl) [f1,hf,h7]
    exact⟨m,by omega,⟨f2,f3,k+1,1,v',D++[x-y-c+1000000000],by omega,by simp,by simp,by simp,by omega,by omega,f5,by simp[hD],dD.app (Di.one (by omega) (by omega)),hs _ _ (by omega)⟩⟩
   ·obtain⟨v',h',w',f1,f2,f3,f5⟩:=ap (x-y-c)
    simp[A.kq,hr,h7,h6,h5,lu,cK,q1,q2,q3,q4,e2,t3,t4,dR,ag,dw.dB]
    simp(disch:=first|(simp;done)|omega|rfl) [f1,hf,h7]
    exact⟨m,by omega,⟨f2,f3,k+1,0,v',D++[x-y-c],by omega,by simp,by simp,by simp,by omega,by omega,f5,by simp[hD],dD.app (Di.one (by omega) (by omega)),hs _ _ (by omega)⟩⟩
 ·rintro _ r ⟨H,n1,W⟩ hr ⟨rfl,hW,hK,k,c,out,D,hk,h7,h6,h5,c0,c1,ho,hD,dD,mw⟩
  simp only at hW hK ho
  obtain rfl:k=la.length:=by omega
  rw[MH (aS _),MH (by omega),va,vb]at mw
  have aD:=rW dD
  rw[hD]at aD
  have c2:c=0:=by
   apply Int.le_antisymm _ c0
   apply Bl
   intro hc
   have:c=1:=by omega
   subst this
   omega
  subst c2
  have hvD:vI D=((a-b:Nat):Int):=by omega
  simp[h5]
  refine ax (Fa ho.sl (by omega)) ?_
  rintro v2 h2 n2 k2 q2
  rw[Dt dD hvD]at q2
  simp[aA,hW]
  exact⟨hK.trans k2,q2⟩
theorem Ydl{a b:Nat}:(0<=zt a b)↔b<=a:=by unfold zt;split<;>(try split)<;>omega
theorem Yj6{h:T O}{N:Nat}{x y:V}{a b:Int}(hx:Rg h N x a)(hy:Rg h N y b)(l1:(ds a.natAbs).length<500000000000)(l2:(ds b.natAbs).length<500000000000):Fn A.C 165 [x,y] h N (fun u h' n'=>Rg h' n' u (a+b)):=by
 intro w
 obtain⟨u,rfl,hu⟩:=hx
 obtain⟨v,rfl,hv⟩:=hy
 have o1:=Sl.form hu |>.one
 have o2:=Sl.form hu |>.cells
 have o3:=Sl.form hv |>.one
 have o4:=Sl.form hv |>.cells
 unfold V.one at o1 o3
 unfold V.cells at o2 o4
 have kB:=((((ab.refl (h:=h) (n:=N)).new (.cells [.bool (decide (a<0)),u] 175 true)).new (.cells [.bool (decide (b<0)),v] 175 true)).new (.cells [.bool false,.aa] 175 true))
 rw[aR,A.k165 (by simp)]
 generalize hB:((h.set N (.cells [.bool (decide (a<0)),u] 175 true)).set (N+1) (.cells [.bool (decide (b<0)),v] 175 true)).set (N+1+1) (.cells [.bool false,.aa] 175 true)=HB at kB
 have gr:HB.get (N+1+1)=some (.cells [.bool false,.aa] 175 true):=by rw[<-hB];simp
 have gx:HB.get N=some (.cells [.bool (decide (a<0)),u] 175 true):=by rw[<-hB];simp
 have gy:HB.get (N+1)=some (.cells [.bool (decide (b<0)),v] 175 true):=by rw[<-hB];simp
 by_cases uE:decide (a<0)=decide (b<0)
 ·have lC:(decide (a<0)==decide (b<0))=true:=by rw[uE];simp
  simp[A.b165,o1,o3,aU,dJ,lC]
  simp only[hB]
  refine ax (Yj2 (Sl.ae hu kB) (Sl.ae hv kB) (fA _) (fA _) (by omega) (by omega)) ?_
  rintro v1 h1 n1 k1 ⟨l,q1,q2,q3,q4⟩
  rw[fH,fH]at q3
  have ez:(if decide (a<0)=true then -((a.natAbs+b.natAbs:Nat):Int) else ((a.natAbs+b.natAbs:Nat):Int))=a+b:=by
   by_cases h1:a<0<;>by_cases h2:b<0<;>simp[h1,h2]at uE ⊢<;>omega
  simp[]
  refine ax (uK (b:=decide (a<0)) (n:=a.natAbs+b.natAbs) q1 q2 (by rw[q3];try simp) (by omega)) ?_
  rintro v2 h2 n2 k2 ew
  rw[ez]at ew
  have Fi:=k1.le
  have nw:=k2.le
  have g1:=(k2.get (N+1+1) (by omega)).trans ((k1.get (N+1+1) (by omega)).trans gr)
  obtain⟨u2,rfl,eS⟩:=ew
  have p1:=Sl.form eS |>.one
  have p2:=Sl.form eS |>.cells
  unfold V.one at p1
  unfold V.cells at p2
  simp[g1,p1,ag,bW,aU,aJ,aA,dw.dB]
  exact⟨by split<;>simp[ad],((kB.trans k1).trans k2).set (by omega),u2,rfl,Sl.setInt eS g1 im rfl⟩
 ·have lC:(decide (a<0)==decide (b<0))=false:=by simpa using uE
  have xI:=fun w=>Vd (w:=w) (Sl.ae hu kB) (Sl.ae hv kB) (by omega) (by omega)
  by_cases mQ:b.natAbs<=a.natAbs
  ·have xS:0<=zt a.natAbs b.natAbs:=Ydl.2 mQ
   simp[A.b165,o1,o3,aU,dJ,lC]
   simp only[hB]
   simp[xI,xS,gx,gy,aU]
   refine ax (Yak (Sl.ae hu kB) (Sl.ae hv kB) mQ (by omega)) ?_
   rintro v1 h1 n1 k1 q1
   have q2:=fA (a.natAbs-b.natAbs)
   have q3:=fH (a.natAbs-b.natAbs)
   have q4:=rG (Nat.sub_le a.natAbs b.natAbs)
   have ez:(if decide (a<0)=true then -((a.natAbs-b.natAbs:Nat):Int) else ((a.natAbs-b.natAbs:Nat):Int))=a+b:=by
    by_cases h1:a<0<;>by_cases h2:b<0<;>simp[h1,h2]at uE ⊢<;>omega
   simp[]
   refine ax (uK (b:=decide (a<0)) (n:=a.natAbs-b.natAbs) q1 q2 (by rw[q3];try simp) (by omega)) ?_
   rintro v2 h2 n2 k2 ew
   rw[ez]at ew
   have Fi:=k1.le
   have nw:=k2.le
   have g1:=(k2.get (N+1+1) (by omega)).trans ((k1.get (N+1+1) (by omega)).trans gr)
   obtain⟨u2,rfl,eS⟩:=ew
   have p1:=Sl.form eS |>.one
   have p2:=Sl.form eS |>.cells
   unfold V.one at p1
   unfold V.cells at p2
   simp[g1,p1,ag,bW,aU,aJ,aA,dw.dB]
   exact⟨by split<;>simp[ad],((kB.trans k1).trans k2).set (by omega),u2,rfl,Sl.setInt eS g1 im rfl⟩
  ·have xS:¬0<=zt a.natAbs b.natAbs:=fun hc=>mQ (Ydl.1 hc)
   simp[A.b165,o1,o3,aU,dJ,lC]
   simp only[hB]
   simp[xI,xS,gx,gy,aU]
   refine ax (Yak (Sl.ae hv kB) (Sl.ae hu kB) (by omega) (by omega)) ?_
   rintro v1 h1 n1 k1 q1
   have q2:=fA (b.natAbs-a.natAbs)
   have q3:=fH (b.natAbs-a.natAbs)
   have q4:=rG (Nat.sub_le b.natAbs a.natAbs)
   have ez:(if decide (b<0)=true then -((b.natAbs-a.natAbs:Nat):Int) else ((b.natAbs-a.natAbs:Nat):Int))=a+b:=by
    by_cases h1:a<0<;>by_cases h2:b<0<;>simp[h1,h2]at uE ⊢<;>omega
   simp[]
   refine ax (uK (b:=decide (b<0)) (n:=b.natAbs-a.natAbs) q1 q2 (by rw[q3];try simp) (by omega)) ?_
   rintro v2 h2 n2 k2 ew
   rw[ez]at ew
   have Fi:=k1.le
   have nw:=k2.le
   have g1:=(k2.get (N+1+1) (by omega)).trans ((k1.get (N+1+1) (by omega)).trans gr)
   obtain⟨u2,rfl,eS⟩:=ew
   have p1:=Sl.form eS |>.one
   have p2:=Sl.form eS |>.cells
   unfold V.one at p1
   unfold V.cells at p2
   simp[g1,p1,ag,bW,aU,aJ,aA,dw.dB]
   exact⟨by split<;>simp[ad],((kB.trans k1).trans k2).set (by omega),u2,rfl,Sl.setInt eS g1 im rfl⟩
variable {n:Nat}
def A.lM:aq:=.seq (sr [mv 6 0,bc 7 .gtr 6 0,mv 8 7,mh 9 5 8,⟨(some 10),.len 0 (.tmp 9),(some (8,false))⟩,mh 11 1 8,⟨(some 12),.bin .lss (.node []) false (.tmp 10) (.tmp 11),(some (8,false))⟩,pt 13 8 12]
 (cd 13
 (.skip)
 (.exit 0)))
 (.block 1 (sr [mv 14 0,bc 15 .rem 14 10,mv 16 0,bc 17 .rem 16 10,bc 18 .add 17 1,⟨(some 19),.az (.const (.str [48,49,50,51,52,53,54,55,56,57])) (some (.tmp 15)) (some (.tmp 18)),none⟩,mv 20 5,bi 21 .add 19 20,mv 5 21]
 (.aM [mv 22 0,bc 23 .quo 22 10,mv 0 23])))
def A.b231:aq:=sr [⟨(some 4),.aY (.const (.str [])),none⟩]
 (sr [⟨(some 5),.aY (.const (.str [])),none⟩]
 (.seq (.block 0 (.loop A.lM))
 (sr [mv 24 5,mv 4 24]
 (.ret))))
theorem A.c231:A.F 231=some ⟨25,[.tmp 4],A.b231⟩:=by kernel_rfl
def A.k231:=@A.kk 231 _ _ _ A.c231 rfl
def A.pG:aq:=.seq (sr [mv 22 4,bc 23 .geq 22 0]
 (cd 23
 (.skip)
 (.exit 0)))
 (.seq (.block 1 (.aM [mv 26 3,fa 27 1 1,ld 28 27,mv 29 4,ia 30 1 28 29,ld 31 30,⟨(some 32),.call (.const (.func 231 [] [])) [(.tmp 31),(.const (.int .i64 9))],none⟩,bi 33 .add 26 32,mv 3 33]))
 (.aM [mv 24 4,bc 25 .sub 24 1,mv 4 25]))
def A.b233:aq:=sr [bx 1 175 0,⟨(some 2),.aY (.const (.str [])),none⟩]
 (.seq (sr [fa 5 1 1,ld 6 5,ln 7 6,ei 8 7 0]
 (cd 8
 (sr [⟨(some 2),.aY (.const (.str [48])),none⟩]
 (.ret))
 (.skip)))
 (sr [fa 9 1 1,ld 10 9,fa 11 1 1,ld 12 11,ln 13 12,bc 14 .sub 13 1,ia 15 1 10 14,ld 16 15,⟨(some 17),.call (.const (.func 231 [] [])) [(.tmp 16),(.const (.int .i64 1))],none⟩,mv 3 17]
 (.seq (sr [fa 18 1 1,ld 19 18,ln 20 19,bc 21 .sub 20 2,mv 4 21]
 (.block 0 (.loop A.pG)))
 (.seq (sr [fa 34 0 1,ld 35 34]
 (cd 35
 (sr [mv 36 3,⟨(some 37),.bin .add (.node []) false (.const (.str [45])) (.tmp 36),none⟩,mv 2 37]
 (.ret))
 (.skip)))
 (sr [mv 38 3,mv 2 38]
 (.ret))))))
theorem A.c233:A.F 233=some ⟨39,[.tmp 2],A.b233⟩:=by kernel_rfl
def A.k233:=@A.kk 233 _ _ _ A.c233 rfl
theorem Yc7:gl 0 0=[]:=by simp[gl,qR]
theorem Yc8{m:Nat}(h:n≠0\/0<m):gl n m=gl (n/10) (m-1)++[cI n]:=by
 unfold gl
 by_cases hn:n=0
 ·subst hn
  have hm:0<m:=by omega
  simp only[qR,Nat.zero_div,List.length_nil,Nat.sub_zero,uT]
  obtain⟨k,rfl⟩:∃k,m=k+1:=⟨m-1,by omega⟩
  have:cI 0=48:=by decide
  rw[this,List.replicate_succ',Nat.add_sub_cancel]
 ·rw[ux hn]
  have:m-(cJ (n/10)++[cI n]).length=m-1-(cJ (n/10)).length:=by simp;omega
  rw[this,qw]
theorem Yl3{k:Nat}(hk:k<10):(Rt.take (k+1)).drop k=[cI k]:=by
 have:k=0\/k=1\/k=2\/k=3\/k=4\/k=5\/k=6\/k=7\/k=8\/k=9:=by omega
 rcases this with rfl|rfl|rfl|rfl|rfl|rfl|rfl|rfl|rfl|rfl<;>decide
theorem Yl6(n:Nat):cI (n%10)=cI n:=by unfold cI;rw[Nat.mod_mod]
theorem Hk{m:Nat}{st:St}(hn:n<9223372036854775808)(hm:m<1000):A.C.call (.func 231 [] []) [.int .i64 n,.int .i64 m] st=some (.str (gl n m),st):=by
 apply Call.eq
 rw[aR,A.k231 (by simp)]
 simp[A.b231]
 have hlen:(gl n m).length<2000:=by
  have:(cJ n).length<=19:=nd.1 (by omega)
  unfold gl
  simp;omega
 refine bQ [(0,0),(5,23)] (fun e r s1=>s1=⟨st.h,st.n,[]⟩/\e=.exit 0/\r.get 5=some (.str (gl n m))) (fun q r s1=>s1=⟨st.h,st.n,[]⟩/\∃k s,q=k+(m-s.length)/\k<9223372036854775808/\r.get 0=some (.int .i64 k)/\r.get 5=some (.str s)/\gl n m=gl k (m-s.length)++s) (n+m) ?_ ?_ ?_
 ·exact⟨rfl,n,[],by simp,hn,by simp,by simp,by simp⟩
 ·rintro q r _ hr hf ⟨rfl,k,s,rfl,hk,h0,h5,hd⟩
  rw[bA]
  by_cases qP:k≠0\/0<m-s.length
  ·have eP:=Yc8 (n:=k) (m:=m-s.length) qP
   rw[eP,qw,LJ]at hd
   have cg:s.length+1<2000:=by
    have:=congrArg List.length hd
    simp at this;omega
   have t1:(k:Int).tmod 10=((k%10:Nat):Int):=by rw[Bk (by omega)];omega
   have t2:(k:Int).tdiv 10=((k/10:Nat):Int):=by rw[yA (by omega)];omega
   have t3:bn .i64 ((k/10:Nat):Int)=((k/10:Nat):Int):=cj (by omega) (by omega)
   have t4:bn .i64 (((k%10:Nat):Int)+1)=((k%10+1:Nat):Int):=by rw[cj (by omega) (by omega)];omega
   have KT:¬(9223372036854775807:Int)<1+(s.length:Int):=by omega
   have di:IntKind.max .i64=9223372036854775807:=rfl
   have sl:∀st:St,rA st (some (.str [48,49,50,51,52,53,54,55,56,57])) (some (some (.int .i64 ((k:Int)%10)))) (some (some (.int .i64 ((k:Int)%10+1))))=some (.str [cI k],st):=fun st=>by
    rw[Y7 (by omega) (by omega) (by simp;omega)]
    have e1:((k:Int)%10).toNat=k%10:=by omega
    have e2:((k:Int)%10+1).toNat=k%10+1:=by omega
    rw[e1,e2]
    have:=Yl3 (k:=k%10) (by omega)
    rw[Yl6]at this
    exact congrArg (fun x=>some (V.str x,st)) this
   have DY:0<k\/(¬0<k/\s.length<m):=by omega
   rcases DY with g1|⟨g1,g2⟩
   ·have i1:(0:Int)<(k:Int):=by omega
    simp(disch:=first|(simp;done)|omega|rfl) [A.lM,hf,h0,h5,g1,t1,t2,gj,di,sl,KT]
    exact⟨k/10+(m-(s.length+1)),by omega,k/10,cI k::s,by simp,by omega,by simp,by simp,by rw[hd,bh,Nat.sub_sub]⟩
   ·have i1:¬(0:Int)<(k:Int):=by omega
    have i2:(s.length:Int)<(m:Int):=by omega
    simp(disch:=first|(simp;done)|omega|rfl) [A.lM,hr,hf,h0,h5,g1,i2,t1,t2,gj,di,sl,KT]
    exact⟨k/10+(m-(s.length+1)),by omega,k/10,cI k::s,by simp,by omega,by simp,by simp,by rw[hd,bh,Nat.sub_sub]⟩
  ·have g1:¬0<k:=by omega
   have g2:¬s.length<m:=by omega
   have i1:¬(0:Int)<(k:Int):=by omega
   have i2:¬(s.length:Int)<(m:Int):=by omega
   obtain rfl:k=0:=by omega
   rw[show m-s.length=0 by omega,Yc7,List.nil_append]at hd
   simp[A.lM,hr,hf,h0,h5,i2,hd]
 ·rintro _ r _ hr ⟨rfl,rfl,h5⟩
  simp[h5]
theorem KU:(ak n).length<=9*(ds n).length+1:=by
 have h1:n<10^(9*(ds n).length):=by
  have h2:=rW (fA n)
  rw[fH,OA]at h2
  have h3:=Int.ofNat_lt.1 h2
  rw[Nat.pow_mul]
  exact h3
 have:=nd.1 h1
 unfold ak
 split<;>simp<;>omega
theorem Zup{k:Nat}:(ak (n/k)).length<=9*(ds n).length+1:=by
 have h1:=KU (n:=n/k)
 have h2:=rG (rS n k)
 omega
theorem Hl{h:T O}{N:Nat}{x:V}{z:Int}(hx:Rg h N x z)(hl:(ds z.natAbs).length<100000000000):Fn A.C 233 [x] h N (fun u _ _=>u=.str (aK z)):=by
 intro w
 obtain⟨u,rfl,hu⟩:=hx
 have o1:=Sl.form hu |>.one
 have o2:=Sl.form hu |>.cells
 unfold V.one at o1
 unfold V.cells at o2
 have kB:=((ab.refl (h:=h) (n:=N)).new (.cells [.bool (decide (z<0)),u] 175 true))
 have eS:Sl (h.set N (.cells [.bool (decide (z<0)),u] 175 true)) (N+1) u (dI (ds z.natAbs)):=Sl.ae hu kB
 have lu:=eS.len
 rw[gk]at lu
 rw[aR,A.k233 (by simp)]
 by_cases h0:z=0
 ·subst h0
  have e0:(ds (0:Int).natAbs).length=0:=by rw[show (0:Int).natAbs=0 from rfl,qA];rfl
  rw[e0]at lu
  have e1:aK 0=[48]:=by decide
  simp[A.b233,o1,lu,aA,e1]
  exact kB
 obtain⟨n,hn⟩:∃n,z.natAbs=n:=⟨_,rfl⟩
 rw[hn]at lu eS hl
 have Cu:n≠0:=by omega
 have qS:(ds n).length≠0:=fun hc=>Cu (zX.1 (qa hc))
 obtain⟨L,hL⟩:∃L,(ds n).length=L+1:=⟨(ds n).length-1,by omega⟩
 have vd:=fun (k:Nat)=>Zup (n:=n) (k:=k)
 rw[hL]at lu
 obtain⟨f,hF⟩:∃f:Nat->a_,∀m,f m=ak (n/1000000000^m):=⟨_,fun _=>rfl⟩
 obtain⟨g,hG⟩:∃g:Nat->Nat,∀m,g m=n/1000000000^m%1000000000:=⟨_,fun _=>rfl⟩
 have qZ:f 0=ak n:=by rw[hF];simp
 have uG:∀m,g m<1000000000:=fun m=>by rw[hG];exact jg _ (by omega)
 have hg:∀m,m<L+1->(ds n)[m]?=some (g m):=fun m hm=>by rw[hG];exact MG (by omega)
 have OB:f L=gl (g L) 1:=by rw[hF,hG];exact Yg4 hL.symm
 have Al:∀m,m<L->f m=f (m+1)++gl (g m) 9:=fun m hm=>by rw[hF,hF,hG];exact Yc9 (by omega)
 have mS:∀m,(f m).length<=9*(L+1)+1:=fun m=>by rw[hF,<-hL];exact vd _
 clear hF hG vd
 obtain⟨i,o,c,e,rw,q1,q2,q3,q4⟩:=eS.at (fU (hg L (by omega)))
 have c1:¬((L:Int)+1=0):=by omega
 have c2:((L:Int)+1-1)=(L:Int):=by omega
 have c3:(L:Int)<(L:Int)+1:=by omega
 have c4:((L:Int)+1-2)=(L:Int)-1:=by omega
 have c5:bn .i64 ((L:Int)+1-1)=(L:Int):=by rw[c2];exact cj (by omega) (by omega)
 have c6:bn .i64 ((L:Int)+1-2)=(L:Int)-1:=by rw[c4];exact cj (by omega) (by omega)
 have EG:∀m st,A.C.call (.func 231 [] []) [.int .i64 (g m),.int .i64 1] st=some (.str (gl (g m) 1),st):=fun m st=>Hk (n:=g m) (m:=1) (st:=st) (by have:=uG m;omega) (by omega)
 have nM:∀m st,A.C.call (.func 231 [] []) [.int .i64 (g m),.int .i64 9] st=some (.str (gl (g m) 9),st):=fun m st=>Hk (n:=g m) (m:=9) (st:=st) (by have:=uG m;omega) (by omega)
 simp(disch:=omega) [A.b233,o1,lu,c1,c2,c6,q1,q3,q4,EG]
 rw[<-OB]
 refine bQ [(3,4),(22,33)] (fun e r s1=>s1=⟨h.set N (.cells [.bool (decide (z<0)),u] 175 true),N+1,[]⟩/\e=.exit 0/\r.get 1=some (.ptr N 0)/\r.get 3=some (.str (ak n))) (fun m r s1=>s1=⟨h.set N (.cells [.bool (decide (z<0)),u] 175 true),N+1,[]⟩/\m<=L/\r.get 1=some (.ptr N 0)/\r.get 4=some (.int .i64 ((m:Int)-1))/\r.get 3=some (.str (f m))) L ?_ ?_ ?_
 ·exact⟨rfl,by omega,by simp,by simp,by simp⟩
 ·rintro m r _ hr hf ⟨rfl,hm,h1,h4,h3⟩
  rw[bA]
  rcases m with _|m
  ·have e1:(((0:Nat):Int)-1<0):=by omega
   rw[qZ]at h3
   simp[A.pG,hr,hf,h3,h4]
  ·have e3:(((m+1:Nat):Int)-1)=(m:Int):=by omega
   have e4:¬((m:Int)<0):=by omega
   rw[e3]at h4
   obtain⟨i,o,c,e,rw,q1,q2,q3,q4⟩:=eS.at (fU (hg m (by omega)))
   have hp:(f m).length=(f (m+1)).length+(gl (g m) 9).length:=by rw[Al m (by omega),fQ]
   have v_:¬(9223372036854775807:Int)<((f (m+1)).length:Int)+((gl (g m) 9).length:Int):=by have:=mS m;omega
   have di:IntKind.max .i64=9223372036854775807:=rfl
   have w1:bn .i64 ((m:Int)-1)=(m:Int)-1:=cj (by omega) (by omega)
   have c7:(m:Int)<(L:Int)+1:=by omega
   have f1:=(Al m (by omega)).symm
   have f2:m<m+1/\m<=L:=by omega
   have Fj:=nM m
   clear hp qS Cu hn hm hl hL Al mS nM EG OB hg uG qZ
   simp[A.pG,hr,hf,h3,h4,lu,c7,q1,q3,q4,Fj,gj,di,v_,w1,f1]
   exact⟨m,f2.1,f2.2,rfl,rfl⟩
 ·rintro _ r _ hr ⟨rfl,rfl,h1,h3⟩
  have kl:=KU (n:=n)
  have di:IntKind.max .i64=9223372036854775807:=rfl
  have cg:¬(9223372036854775807:Int)<1+((ak n).length:Int):=by omega
  by_cases hz:z<0
  ·have e1:aK z=45::ak n:=by unfold aK;rw[aF hz,hn]
   clear kl qS Cu hn hL Al mS nM EG OB hg uG qZ hl
   simp[hr,h3,hz,gj,di,cg,aA,e1]
   simpa[hz]using kB
  ·have e1:aK z=ak n:=by unfold aK;rw[au hz,hn]
   clear kl qS Cu hn hL Al mS nM EG OB hg uG qZ hl
   simp[hr,h3,hz,aA,e1]
   simpa[hz]using kB
open Go
theorem Yog{P d1 d2 d3 v1 v2 U' V' t r:Int}(hP:0<P)(Eg:0<=U')(hU:U'<P)(tX:0<=V')(hV:V'<P)(h1:0<=d1)(gh:d1<1000000000)(h2:0<=d2)(h3:0<=d3)(w1:500000000<=v1)(w2:0<=v2)(w2':v2<1000000000)
  (hW:U'+P*(d1+1000000000*(d3*1000000000+d2))<1000000000*(V'+P*(v2+1000000000*v1))) (ht:d3*1000000000+d2=t*v1+r) (ef:0<=r) (jj:r<v1):
  0<=t/\t<=1000000001/\U'+P*(d1+1000000000*(d3*1000000000+d2))<(t+1)*(V'+P*(v2+1000000000*v1)):=by
 generalize hT:d3*1000000000+d2=T at*
 have hT0:0<=T:=by omega
 have t0:0<=t:=by
  apply Bl;intro hc
  have:t*v1<=(-1)*v1:=Bj (by omega) (by omega)
  omega
 have a1:T<1000000000*(v1+1):=by
  apply FW;intro hc
  have b1:P*(1000000000*(v1+1))<=P*T:=oI hc (by omega)
  have b2:0<=P*d1:=tO (by omega) h1
  have b3:P*v2<=P*999999999:=oI (by omega) (by omega)
  have b4:P*(d1+1000000000*T)=P*d1+1000000000*(P*T):=by grind
  have b5:P*(v2+1000000000*v1)=P*v2+1000000000*(P*v1):=by grind
  have b6:P*(1000000000*(v1+1))=1000000000*(P*v1)+1000000000*P:=by grind
  omega
 have a2:t<=1000000001:=by
  apply Bl;intro hc
  have b1:1000000002*v1<=t*v1:=Bj (by omega) (by omega)
  omega
 refine⟨t0,a2,?_⟩
 have c1:(t+1)*v1=t*v1+v1:=by grind
 have b1:P*(T+1)<=P*((t+1)*v1):=oI (by omega) (by omega)
 have b2:P*d1<=P*999999999:=oI (by omega) (by omega)
 have b3:0<=(t+1)*V':=tO (by omega) tX
 have b4:0<=(t+1)*(P*v2):=tO (by omega) (tO (by omega) w2)
 have b5:P*(d1+1000000000*T)=P*d1+1000000000*(P*T):=by grind
 have b6:(t+1)*(V'+P*(v2+1000000000*v1))=(t+1)*V'+(t+1)*(P*v2)+1000000000*(P*((t+1)*v1)):=by grind
 have b7:P*(T+1)=P*T+P:=by grind
 omega
set_option maxHeartbeats 2000000
def A.gw:aq:=.seq (.seq (.aV [mv 42 9,bc 43 .geq 42 1000000000,mv 44 43,mh 45 9 44,mh 46 1 44,mh 47 7 44,⟨(some 48),.bin .sub (.node []) false (.tmp 47) (.const (.int .i64 2)),(some (44,false))⟩,⟨(some 49),.aN 1 (.tmp 46) (.tmp 48),(some (44,false))⟩,⟨(some 50),.load none (.tmp 49),(some (44,false))⟩,⟨(some 51),.bin .mul (.node []) false (.tmp 45) (.tmp 50),(some (44,false))⟩,mh 52 10 44,⟨(some 53),.bin .mul (.node []) false (.tmp 52) (.const (.int .i64 1000000000)),(some (44,false))⟩,mh 54 0 44,mh 55 2 44,mh 56 7 44,⟨(some 57),.bin .add (.node []) false (.tmp 55) (.tmp 56),(some (44,false))⟩,⟨(some 58),.bin .sub (.node []) false (.tmp 57) (.const (.int .i64 2)),(some (44,false))⟩,⟨(some 59),.aN 1 (.tmp 54) (.tmp 58),(some (44,false))⟩,⟨(some 60),.load none (.tmp 59),(some (44,false))⟩,⟨(some 61),.bin .add (.node []) false (.tmp 53) (.tmp 60),(some (44,false))⟩,⟨(some 62),.bin .gtr (.node []) false (.tmp 51) (.tmp 61),(some (44,false))⟩,pt 63 44 62] [0,1,3,7,7,7,39,119,247,511,7,1031,7,7,7,24583,57351,126983,258055,523271,1048575,2097151])
 (cd 63
 (.skip)
 (.exit 0)))
 (.block 1 (sr [mv 64 9,bc 65 .sub 64 1,mv 9 65]
 (sr [mv 66 10,mv 67 1,mv 68 7,bc 69 .sub 68 1,ia 70 1 67 69,ld 71 70,bi 72 .add 66 71,mv 10 72]
 (sr [mv 73 10,bc 74 .geq 73 1000000000]
 (cd 74
 (sr [mv 75 9,mv 6 75]
 (.ret))
 (.skip))))))
def A.b266:aq:=sr [mc 6 0]
 (sr [mv 11 1,ln 12 11,mv 7 12]
 (.seq (.aV [mv 13 0,mv 14 2,mv 15 7,bi 16 .add 14 15,ia 17 1 13 16,ld 18 17,bc 19 .mul 18 1000000000,mv 20 0,mv 21 2,mv 22 7,bi 23 .add 21 22,bc 24 .sub 23 1,ia 25 1 20 24,ld 26 25,bi 27 .add 19 26,mv 8 27] [0,0,0,6,15,31,63,0,0,0,768,1792,3968,8064,16383,32767])
 (.seq (.aV [mv 28 8,mv 29 1,mv 30 7,bc 31 .sub 30 1,ia 32 1 29 31,ld 33 32,bi 34 .quo 28 33,mv 35 8,mv 36 1,mv 37 7,bc 38 .sub 37 1,ia 39 1 36 38,ld 40 39,bi 41 .rem 35 40,mv 9 34,mv 10 41] [0,0,0,4,14,30,63,0,0,0,512,1792,3840,8064,127,32767])
 (.seq (.block 0 (.loop A.gw))
 (sr [mv 76 9,mv 6 76]
 (.ret))))))
theorem A.c266:A.F 266=some ⟨77,[.tmp 6],A.b266⟩:=by kernel_rfl
def A.k266:=@A.kk 266 _ _ _ A.c266 rfl
structure GuR (W D v1 top:Int) (m:Nat) (r:T V):Prop where
 ex:∃t q:Int,t.toNat=m/\r.get 9=some (.int .i64 t)/\r.get 10=some (.int .i64 q)/\0<=t/\t<=1000000001/\0<=q/\q<1000000000/\top=t*v1+q/\W<(t+1)*D
theorem Ygj{h:T O}{N:Nat}{u v:V}{L Y:List Int}{j k:Nat}{d1 d2 d3 v1 v2 P U' V' W D:Int}{w:List Nat}(hu:Sl h N u (dI L))(hv:Sl h N v (dI Y))(hY:Y.length=k+2)(hL:L.length<1099511627776)(e1:L[j+k]?=some d1)(e2:L[j+k+1]?=some d2)(e3:L[j+k+2]?=some d3)(f2:Y[k]?=some v2)(f1:Y[k+1]?=some v1)
  (r1:0<=d1/\d1<1000000000) (r2:0<=d2/\d2<1000000000) (r3:0<=d3/\d3<1000000000) (r4:500000000<=v1/\v1<1000000000) (r5:0<=v2/\v2<1000000000) (hP:0<P) (Eg:0<=U') (hU:U'<P) (tX:0<=V') (hV:V'<P) (hW:W=U'+P*(d1+1000000000*(d3*1000000000+d2))) (hD:D=V'+P*(v2+1000000000*v1)) (hWD:W<1000000000*D):
  ∃t,A.C.call (.func 266 [] []) [u,v,.int .i64 j] ⟨h,N,w⟩=some (.int .i64 t,⟨h,N,w⟩)/\0<=t/\t<=1000000000/\(t-1)*D<=W/\W<(t+1)*D:=by
 have lu:=hu.len
 have lv:=hv.len
 rw[gk]at lu lv
 rw[hY]at lv
 have rl:=mM e3
 have goal:Call A.C (.func 266 [] []) [u,v,.int .i64 j] ⟨h,N,w⟩ (fun x s=>s=⟨h,N,w⟩/\∃t,x=.int .i64 t/\0<=t/\t<=1000000000/\(t-1)*D<=W/\W<(t+1)*D):=by
  obtain⟨a1,a2,a3,a4,a5,x1,x2,x3,x4⟩:=hu.at (fU e1)
  obtain⟨J1,U1,Xm,a4',a5',VC,x2',VD,x4'⟩:=hu.at (fU e2)
  obtain⟨zaG,zaH,zaI,zaJ,zaK,Fk,zaL,Fl,VE⟩:=hu.at (fU e3)
  rw[x1]at VC Fk
  simp only[aj,bq]at VC Fk
  obtain⟨rfl,rfl⟩:=VC
  obtain⟨rfl,rfl⟩:=Fk
  rw[x3]at VD Fl
  simp only[aj,O.cells.injEq]at VD Fl
  obtain⟨rfl,rfl,rfl⟩:=VD
  obtain⟨rfl,_,_⟩:=Fl
  obtain⟨b1,b2,b3,b4,b5,y1,y2,y3,y4⟩:=hv.at (fU f2)
  obtain⟨b1',b2',b3',b4',b5',VF,y2',VG,KV⟩:=hv.at (fU f1)
  rw[y1]at VF
  simp only[aj,bq]at VF
  obtain⟨rfl,rfl⟩:=VF
  rw[y3]at VG
  simp only[aj,O.cells.injEq]at VG
  obtain⟨rfl,_,_⟩:=VG
  have c1:((k:Int)+2-1)=(k:Int)+1:=by omega
  have c2:((j:Int)+((k:Int)+2)-1)=(j:Int)+(k:Int)+1:=by omega
  have c3:((j:Int)+((k:Int)+2)-2)=(j:Int)+(k:Int):=by omega
  have c4:((k:Int)+2-2)=(k:Int):=by omega
  have c5:((j:Int)+((k:Int)+2))=(j:Int)+(k:Int)+2:=by omega
  have i1:(j:Int)+(k:Int)+2<(L.length:Int):=by omega
  have i2:(j:Int)+(k:Int)+1<(L.length:Int):=by omega
  have i3:(j:Int)+(k:Int)<(L.length:Int):=by omega
  have i4:(0:Int)<=(j:Int)+(k:Int)+2:=by omega
  have i5:(0:Int)<=(j:Int)+(k:Int)+1:=by omega
  have i6:(0:Int)<=(j:Int)+(k:Int):=by omega
  have n1:((j:Int)+(k:Int)+2).toNat=j+k+2:=by omega
  have n2:((j:Int)+(k:Int)+1).toNat=j+k+1:=by omega
  have n3:((j:Int)+(k:Int)).toNat=j+k:=by omega
  have n4:((k:Int)+1).toNat=k+1:=by omega
  have k1:(k:Int)+1<(k:Int)+2:=by omega
  have k2:(k:Int)<(k:Int)+2:=by omega
  have k3:(0:Int)<=(k:Int)+1:=by omega
  have u1:bn .i64 (d3*1000000000)=d3*1000000000:=cj (by omega) (by omega)
  have u2:bn .i64 (d3*1000000000+d2)=d3*1000000000+d2:=cj (by omega) (by omega)
  have s0:0<=d3*1000000000+d2:=by omega
  have v0:¬v1=0:=by omega
  have t1:(d3*1000000000+d2).tdiv v1=(d3*1000000000+d2)/v1:=yA s0
  have t2:(d3*1000000000+d2).tmod v1=(d3*1000000000+d2)%v1:=Bk s0
  have t3:=Bn (d3*1000000000+d2) v1
  have t4:=Bm (d3*1000000000+d2) v0
  have t5:=Bo (d3*1000000000+d2) (b:=v1) (by omega)
  have gi:=Yog (t:=(d3*1000000000+d2)/v1) (r:=(d3*1000000000+d2)%v1) hP Eg hU tX hV r1.1 r1.2 r2.1 r3.1 r4.1 r5.1 r5.2 (by rw[<-hW,<-hD];exact hWD) (by rw[Int.mul_comm (_/_) v1];exact t3.symm) t4 t5
  rw[<-hW,<-hD]at gi
  obtain⟨g1,g2,g3⟩:=gi
  have t6:bn .i64 ((d3*1000000000+d2)/v1)=(d3*1000000000+d2)/v1:=cj (by omega) (by omega)
  rw[aR,A.k266 (by simp)]
  simp(disch:=first|(simp;done)|omega|rfl) [A.b266,lv,lu,c1,c5,n1,n4,x1,x2,x3,x4',VE,y1,y2,y3,KV,u1,u2,t1,t2,t6]
  generalize xV:d3*1000000000+d2=D1 at*
  refine bQ [(6,6),(9,10),(42,75)] (fun e r st=>st=⟨h,N,[]⟩/\((e=.exit 0/\∃t,r.get 9=some (.int .i64 t)/\0<=t/\t<=1000000000/\(t-1)*D<=W/\W<(t+1)*D)\/(e=.ret/\∃t,r.get 6=some (.int .i64 t)/\0<=t/\t<=1000000000/\(t-1)*D<=W/\W<(t+1)*D))) (fun m r st=>st=⟨h,N,[]⟩/\GuR W D v1 D1 m r) (D1/v1).toNat ?_ ?_ ?_
  ·exact⟨rfl,⟨D1/v1,D1%v1,rfl,by simp,by simp,g1,g2,t4,by omega,by rw[Int.mul_comm (_/_) v1];exact t3.symm,g3⟩⟩
  ·rintro m r _ hr hf ⟨rfl,⟨t,q,rfl,h9,eM,OC,tq1,q0,q1,jc,aD⟩⟩
   rw[bA]
   by_cases hA:1000000000<=t
   ·have aD:W<t*D:=by
     have d0:0<=D:=by
      have:=tO (rf hP) (show 0<=v2+1000000000*v1 by omega)
      omega
     have:=Bj hA d0
     omega
    have tp:1<=t:=by omega
    have jK:bn .i64 (q+v1)=q+v1:=cj (by omega) (by omega)
    have wm:bn .i64 (t-1)=t-1:=cj (by omega) (by omega)
    have e5:D1=t*v1+q:=jc
    have e6:(t-1)*v1+(q+v1)=t*v1+q:=by grind
    by_cases mQ:1000000000<=q+v1
    ·simp(disch:=first|(simp;done)|omega|rfl) [A.gw,hr,hf,h9,eM,lv,c1,n4,y1,y3,KV,hA,jK,wm,mQ]
     refine⟨by omega,by omega,?_,aD⟩
     have m1:(t-1)*v2<=1000000000*v2:=Bj (by omega) r5.1
     have:=Rp (t:=t-1) (r:=q+v1) (v1:=v1) (u1:=D1) hP Eg r1.1 s0 (by omega) r5.1 tX hV (by omega) (by omega) (by rw[e6];exact jc) (by omega)
     rw[hW,hD]
     exact this
    ·simp(disch:=first|(simp;done)|omega|rfl) [A.gw,hr,hf,h9,eM,lv,c1,n4,y1,y3,KV,hA,jK,wm,mQ]
     exact⟨(t-1).toNat,by omega,⟨t-1,q+v1,rfl,by simp,by simp,by omega,by omega,by omega,by omega,by rw[e6];exact jc,by rw[show t-1+1=t by omega];exact aD⟩⟩
   ·have VH:¬1000000000<=t:=hA
    have m0:0<=t*v2:=tO OC r5.1
    have m1:t*v2<=1000000000*1000000000:=Int.mul_le_mul (by omega) (by omega) r5.1 (by omega)
    have b1':bn .i64 (t*v2)=t*v2:=cj (by omega) (by omega)
    have b2':bn .i64 (q*1000000000)=q*1000000000:=cj (by omega) (by omega)
    have b3':bn .i64 (q*1000000000+d1)=q*1000000000+d1:=cj (by omega) (by omega)
    by_cases hB:q*1000000000+d1<t*v2
    ·have aD:W<t*D:=by
      have:=Ylc (t:=t) (r:=q) (v1:=v1) (u1:=D1) hP hU tX OC jc hB
      rw[hW,hD];exact this
     have tz:t≠0:=fun hc=>by rw[hc]at hB;simp at hB;omega
     have tp:1<=t:=by omega
     have jK:bn .i64 (q+v1)=q+v1:=cj (by omega) (by omega)
     have wm:bn .i64 (t-1)=t-1:=cj (by omega) (by omega)
     have e5:D1=t*v1+q:=jc
     have e6:(t-1)*v1+(q+v1)=t*v1+q:=by grind
     by_cases mQ:1000000000<=q+v1
     ·simp(disch:=first|(simp;done)|omega|rfl) [A.gw,hr,hf,h9,eM,lv,lu,c1,c4,c5,n3,n4,x1,x2,x3,x4,y1,y2,y3,y4,KV,VH,b1',b2',b3',hB,jK,wm,mQ]
      refine⟨by omega,by omega,?_,aD⟩
      have m1:(t-1)*v2<=1000000000*v2:=Bj (by omega) r5.1
      have:=Rp (t:=t-1) (r:=q+v1) (v1:=v1) (u1:=D1) hP Eg r1.1 s0 (by omega) r5.1 tX hV (by omega) (by omega) (by rw[e6];exact jc) (by omega)
      rw[hW,hD]
      exact this
     ·simp(disch:=first|(simp;done)|omega|rfl) [A.gw,hr,hf,h9,eM,lv,lu,c1,c4,c5,n3,n4,x1,x2,x3,x4,y1,y2,y3,y4,KV,VH,b1',b2',b3',hB,jK,wm,mQ]
      exact⟨(t-1).toNat,by omega,⟨t-1,q+v1,rfl,by simp,by simp,by omega,by omega,by omega,by omega,by rw[e6];exact jc,by rw[show t-1+1=t by omega];exact aD⟩⟩
    ·simp(disch:=first|(simp;done)|omega|rfl) [A.gw,hr,hf,h9,eM,lv,lu,c4,c5,n3,x1,x2,x3,x4,y1,y2,y3,y4,VH,b1',b2',b3',hB]
     refine⟨OC,by omega,?_,aD⟩
     have:=Rp (t:=t) (r:=q) (u1:=D1) hP Eg r1.1 s0 (by omega) r5.1 tX hV OC (by omega) jc (by omega)
     rw[hW,hD];exact this
  ·rintro e r _ hr ⟨rfl,⟨rfl,t,h9,ht⟩|⟨rfl,t,h6,ht⟩⟩
   ·simp[h9];exact ht
   ·simp[h6];exact ht
 obtain⟨x,s,hc,rfl,t,rfl,h1,h2,h3,h4⟩:=goal.ex
 exact⟨t,hc,h1,h2,h3,h4⟩
end Go.Mx
