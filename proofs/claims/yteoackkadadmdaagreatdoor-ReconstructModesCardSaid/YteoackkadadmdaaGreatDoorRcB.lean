/-lensletref01-/
import Derived.Test.YteoackkadadmdaaGreatDoorRbM
set_option linter.all false
namespace Go.Mx
open Go Go.Proofs
variable {N:Nat} {h:T O}
set_option maxRecDepth 1000000
def A.b258:av:=sr [bx 2 139 0,bx 3 139 1,ge 4 (.alloc [.bool false,.aa] 139)]
 (.seq (sr [fa 5 0 2,ld 6 5,fa 7 0 3,ld 8 7,ge 9 (.bin .eql (.aM .bool) false (tq 6) (tq 8))]
 (cd 9
 (.seq (.aX [fa 10 0 2,ld 11 10,fa 12 1 2,ld 13 12,fa 14 1 3,ld 15 14,c2 16 283 13 15,c2 17 220 11 16,gn (.store 2 (tq 4) (tq 17))] [0,1,0,4,0,16,60,127,255])
 (.ret))
 (.skip)))
 (.seq (sr [fa 18 1 2,ld 19 18,fa 20 1 3,ld 21 20,c2 22 221 19 21,bc 23 .geq 22 0]
 (cd 23
 (.seq (.aX [fa 24 0 2,ld 25 24,fa 26 1 2,ld 27 26,fa 28 1 3,ld 29 28,c2 30 284 27 29,c2 31 220 25 30,gn (.store 2 (tq 4) (tq 31))] [0,1,0,4,0,16,60,127,255])
 (.ret))
 (.skip)))
 (.seq (.aX [fa 32 0 3,ld 33 32,fa 34 1 3,ld 35 34,fa 36 1 2,ld 37 36,c2 38 284 35 37,c2 39 220 33 38,gn (.store 2 (tq 4) (tq 39))] [0,1,0,4,0,16,60,127,255])
 (.ret))))
def A.c258:A.F 258=some ⟨40,[.cell 4 (some 2)],A.b258⟩:=by kernel_rfl
def A.k258:=@A.kk 258 _ _ _ A.c258 rfl
def A.b229:av:=sr [bx 1 139 0,ge 2 (.alloc [.bool false,.aa] 139)]
 (sr [fa 3 0 1,ld 4 3,ge 5 (.un .not (tq 4)),fa 6 1 1,ld 7 6,c2 8 220 5 7,gn (.store 2 (tq 2) (tq 8))]
 (.ret))
def A.c229:A.F 229=some ⟨9,[.cell 2 (some 2)],A.b229⟩:=by kernel_rfl
def A.k229:=@A.kk 229 _ _ _ A.c229 rfl
def A.b180:av:=sr [bx 2 139 0,bx 3 139 1,ge 4 (.alloc [.bool false,.aa] 139)]
 (.seq (.aX [fa 5 0 2,ld 6 5,fa 7 0 3,ld 8 7,ge 9 (.bin .neq (.aM .bool) false (tq 6) (tq 8)),fa 10 1 2,ld 11 10,fa 12 1 3,ld 13 12,c2 14 224 11 13,c2 15 220 9 14,gn (.store 2 (tq 4) (tq 15))] [0,1,0,4,15,0,32,0,128,480,1023,2047])
 (.ret))
def A.c180:A.F 180=some ⟨16,[.cell 4 (some 2)],A.b180⟩:=by kernel_rfl
def A.k180:=@A.kk 180 _ _ _ A.c180 rfl
def QC(k:Nat):pI k=((1000000000^k:Nat):Int):=by unfold pI;simp
def Rg.ae{h':T O}{N':Nat}{v:V}{z:Int}(s:Rg h N v z)(k:ab h N h' N'):Rg h' N' v z:=by
 obtain⟨u,h1,h2⟩:=s
 exact⟨u,h1,h2.ae k⟩
def je:∀x∈[V.bool false,V.aa],∀k m,x≠.int k m:=by intro x hx k m;simp at hx;rcases hx with rfl|rfl<;>simp
def Yqm{b:Bool}{u:V}(hu:Gd u):∀x∈[V.bool b,u],∀k m,x≠.int k m:=by
 intro x hx k m
 simp at hx
 rcases hx with rfl|rfl
 ·simp
 ·rcases hu with rfl|rfl|⟨_,_,_,_,_,rfl⟩<;>simp
def Yaf(a b:Nat):(ds (a*b)).length<=(ds a).length+(ds b).length:=by
 refine ID ?_
 have h1:=uQ (fT a)
 have h2:=uQ (fT b)
 rw[fZ]at h1 h2
 rw[QC]at h1 h2
 rw[kQ]
 exact BQ (Int.ofNat_lt.1 h1) (Int.ofNat_lt.1 h2)
def Zwz{v:V}{z:Int}(hs:Rg h N v z)(hl:(ds z.natAbs).length<1099511627776):Fn A.C 229 [v] h N (fun u h' n'=>Rg h' n' u (-z)):=by
 intro w
 obtain⟨u,rfl,hu⟩:=hs
 have o1:=Sl.form hu |>.one
 have o2:=Sl.form hu |>.cells
 unfold V.one at o1
 unfold V.cells at o2
 have kB:=(((ab.refl (h:=h) (n:=N)).new (.cells [.bool (decide (z<0)),u] 139 true)).new (.cells [.bool false,.aa] 139 true))
 rw[aO,A.k229 (by simp)]
 simp[A.b229,o1,aS]
 refine aA (xn (b:=!decide (z<0)) (n:=z.natAbs) (Sl.ae hu kB) (fT _) (fZ _) (by omega)) ?_
 rintro v2 h2 n2 k2 hv
 have vt:=k2.le
 have g1:=(k2.get (N+1) (by omega))
 rw[T.ag,aF rfl]at g1
 have kk:=kB.trans k2
 have ez:(if (!decide (z<0))=true then -((z.natAbs:Nat):Int) else ((z.natAbs:Nat):Int))= -z:=by
  by_cases h0:z<0<;>simp[h0]<;>omega
 rw[ez]at hv
 obtain⟨u2,rfl,fu⟩:=hv
 have p1:=Sl.form fu |>.one
 have p2:=Sl.form fu |>.cells
 unfold V.one at p1
 unfold V.cells at p2
 simp[g1,p1,ad,bO,aS,aE,az]
 exact⟨kk.set (by omega),u2,by simp,Sl.setInt fu g1 je rfl⟩
def Yl0(a b:Int):(if (!(decide (a<0)==decide (b<0)))=true then -((a.natAbs*b.natAbs:Nat):Int) else ((a.natAbs*b.natAbs:Nat):Int))=a*b:=by
 have h0:((a.natAbs*b.natAbs:Nat):Int)=(a.natAbs:Int)*(b.natAbs:Int):=by simp
 rw[h0]
 by_cases h1:a<0<;>by_cases h2:b<0
 ·have ha:(a.natAbs:Int)= -a:=by omega
  have hb:(b.natAbs:Int)= -b:=by omega
  rw[ha,hb];simp[h1,h2,Int.neg_mul,Int.mul_neg]
 ·have ha:(a.natAbs:Int)= -a:=by omega
  have hb:(b.natAbs:Int)=b:=by omega
  rw[ha,hb];simp[h1,h2,Int.neg_mul]
 ·have ha:(a.natAbs:Int)=a:=by omega
  have hb:(b.natAbs:Int)= -b:=by omega
  rw[ha,hb];simp[h1,h2,Int.mul_neg]
 ·have ha:(a.natAbs:Int)=a:=by omega
  have hb:(b.natAbs:Int)=b:=by omega
  rw[ha,hb];simp[h1,h2]
def M8{x y:V}{a b:Int}(hx:Rg h N x a)(hy:Rg h N y b)(l1:(ds a.natAbs).length<500000000000)(l2:(ds b.natAbs).length<500000000000):Fn A.C 180 [x,y] h N (fun u h' n'=>Rg h' n' u (a*b)):=by
 intro w
 obtain⟨u,rfl,hu⟩:=hx
 obtain⟨v,rfl,hv⟩:=hy
 have o1:=Sl.form hu |>.one
 have o2:=Sl.form hu |>.cells
 have o3:=Sl.form hv |>.one
 have o4:=Sl.form hv |>.cells
 unfold V.one at o1 o3
 unfold V.cells at o2 o4
 have kB:=((((ab.refl (h:=h) (n:=N)).new (.cells [.bool (decide (a<0)),u] 139 true)).new (.cells [.bool (decide (b<0)),v] 139 true)).new (.cells [.bool false,.aa] 139 true))
 rw[aO,A.k180 (by simp)]
 simp[A.b180,o1,o3,aS,aI]
 generalize hB:((h.set N (.cells [.bool (decide (a<0)),u] 139 true)).set (N+1) (.cells [.bool (decide (b<0)),v] 139 true)).set (N+1+1) (.cells [.bool false,.aa] 139 true)=HB at*
 have gr:HB.get (N+1+1)=some (.cells [.bool false,.aa] 139 true):=by rw[<-hB];simp
 refine aA (Xx (Sl.ae hu kB) (Sl.ae hv kB) (fT _) (fT _) (fZ _) (fZ _) (by omega)) ?_
 rintro v1 h1 n1 k1 q1
 have Cm:(ds (a.natAbs*b.natAbs)).length<1152921504606846976:=by
  have:=Yaf a.natAbs b.natAbs;omega
 simp[]
 refine aA (xn (n:=a.natAbs*b.natAbs) q1 (fT _) (fZ _) Cm) ?_
 rintro v2 h2 n2 k2 dK
 have yi:=k1.le
 have kI:=k2.le
 have g1:=(k2.get (N+1+1) (by omega)).trans ((k1.get (N+1+1) (by omega)).trans gr)
 have ez:(if (!(decide (a<0)==decide (b<0)))=true then -((a.natAbs*b.natAbs:Nat):Int) else ((a.natAbs*b.natAbs:Nat):Int))=a*b:=Yl0 a b
 rw[ez]at dK
 obtain⟨u2,rfl,fu⟩:=dK
 have p1:=Sl.form fu |>.one
 have p2:=Sl.form fu |>.cells
 unfold V.one at p1
 unfold V.cells at p2
 simp[g1,p1,ad,bO,aS,aE,az,cA.cB]
 exact⟨by split<;>simp[ax],((kB.trans k1).trans k2).set (by omega),u2,rfl,Sl.setInt fu g1 je rfl⟩
set_option maxHeartbeats 4000000
structure SuI (h:T O) (N:Nat) (la lb:List Int) (m:Nat) (r:T V) (st:St):Prop where
 w:ax N st.w=[]
 ae:ab h N st.h st.n
 ex:∃k c out D,k+m=la.length/\r.get 7=some (.int .i64 k)/\r.get 6=some (.int .i64 c)/\r.get 5=some out/\0<=c/\c<=1/\Own 1 3 N st.h st.n out (o_ D)/\D.length=k/\Di D/\vI D-pI k*c=vI (la.take k)-vI (lb.take k)
def Yb0{h:T O}{N:Nat}{u v:V}{a b:Nat}(hu:Dn h N u a)(hv:Dn h N v b)(h_:b<=a)(l1:(ds a).length<1099511627776):Fn A.C 284 [u,v] h N (fun x h' n'=>Dn h' n' x (a-b)):=by
 intro w
 have l2:=tW h_
 have da:=fT a
 have db:=fT b
 have va:=fZ a
 have vb:=fZ b
 have lu:=Sl.len hu
 have lv:=Sl.len hv
 rw[gk]at lu lv
 have hu:Sl h N u (dI (ds a)):=hu
 have hv:Sl h N v (dI (ds b)):=hv
 generalize hA:ds a=la at*
 generalize hB:ds b=lb at*
 rw[aO,A.k284 (by simp)]
 simp[A.b284]
 refine bP [(5,32)] (fun e r st=>e=.exit 0/\SuI h N la lb 0 r st) (SuI h N la lb) la.length ?_ ?_ ?_
 ·exact⟨by simp,ab.refl,0,0,.aa,[],by omega,by simp,by simp,by simp,by omega,by omega,Own.nil,rfl,Di.nil,by simp[vI]⟩
 ·rintro m r ⟨H,n1,W⟩ hr hf ⟨hW,hK,k,c,out,D,hk,h7,h6,h5,c0,c1,ho,hD,dD,l7⟩
  simp only at hW hK ho
  rw[bq]
  cases m with
  |zero=>
   obtain rfl:k=la.length:=by omega
   simp[A.mF,hr,hf,h7,lu]
   exact⟨hW,hK,la.length,c,out,D,by omega,by simp[h7],by simp[h6],by simp[h5],c0,c1,ho,hD,dD,l7⟩
  |succ m=>
   have ay:k<la.length:=by omega
   have bR:(k:Int)<(la.length:Int):=by omega
   obtain⟨x,hx⟩:=bp ay
   have dx:=da.get hx
   have dy:=Uc db k
   obtain⟨i,o,cc,e,rw,q1,q2,q3,q4⟩:=(hu.ae hK).at (gl hx)
   have e2:=fun w=>Vt (w:=w) (i:=k) (hv.ae hK) (by omega) (by omega)
   obtain⟨y,hy⟩:∃y,zI lb k=y:=⟨_,rfl⟩
   rw[hy]at dy e2
   have t3:bu .i64 (x-y)=x-y:=cF (by omega) (by omega)
   have t4:bu .i64 (x-y-c)=x-y-c:=cF (by omega) (by omega)
   have t5:bu .i64 (x-y-c+1000000000)=x-y-c+1000000000:=cF (by omega) (by omega)
   have hs:∀d c':Int,d-1000000000*c'=x-y-c->vI (D++[d])-pI (k+1)*c'=vI (la.take (k+1))-vI (lb.take (k+1)):=fun d c' he=>by
    rw[B5,hD,yx hx,Ud,hy,uO]
    have:d=x-y-c+1000000000*c':=by omega
    subst this
    grind
   have ap:∀d:Int,∃v' h' w',gj ⟨H.set n1 (.cells [.int .i64 d] 3 true),n1+1,W⟩ 1 8 3 out (.slice n1 0 1 (some 1) 1)=some (v',⟨h',n1+1+1,w'⟩)/\ax N w'=[]/\ab h N h' (n1+1+1)/\Own 1 3 N h' (n1+1+1) v' (o_ (D++[d])):=fun d=>by
    have xG:=ho.ae (ab.refl.new (.cells [.int .i64 d] 3 true))
    obtain⟨v',h',w',f1,f2,f3,_,f5⟩:=sE (x:=[.int .i64 d]) (u:=.slice n1 0 1 (some 1) 1) (bytes:=8) (w:=W) xG (by have:=hK.le;omega) (by decide) rfl (by simp[eD,St.row,aE]) (by simp[o_];omega)
    rw[<-DN]at f5
    exact⟨v',h',w',f1,by rw[f2];exact hW,(hK.new (.cells [.int .i64 d] 3 true)).then f3,f5⟩
   by_cases eh:x-y-c<0
   ·obtain⟨v',h',w',f1,f2,f3,f5⟩:=ap (x-y-c+1000000000)
    simp[A.mF,hr,h7,h6,h5,lu,bR,q1,q2,q3,q4,e2,t3,t4,t5,eh,ad,cA.cB]
    simp(disch:=first|(simp;done)|omega|rfl) [f1,hf,h7]
    exact⟨m,by omega,⟨f2,f3,k+1,1,v',D++[x-y-c+1000000000],by omega,by simp,by simp,by simp,by omega,by omega,f5,by simp[hD],dD.app (Di.one (by omega) (by omega)),hs _ _ (by omega)⟩⟩
   ·obtain⟨v',h',w',f1,f2,f3,f5⟩:=ap (x-y-c)
    simp[A.mF,hr,h7,h6,h5,lu,bR,q1,q2,q3,q4,e2,t3,t4,eh,ad,cA.cB]
    simp(disch:=first|(simp;done)|omega|rfl) [f1,hf,h7]
    exact⟨m,by omega,⟨f2,f3,k+1,0,v',D++[x-y-c],by omega,by simp,by simp,by simp,by omega,by omega,f5,by simp[hD],dD.app (Di.one (by omega) (by omega)),hs _ _ (by omega)⟩⟩
 ·rintro _ r ⟨H,n1,W⟩ hr ⟨rfl,hW,hK,k,c,out,D,hk,h7,h6,h5,c0,c1,ho,hD,dD,l7⟩
  simp only at hW hK ho
  obtain rfl:k=la.length:=by omega
  rw[Pm (aW _),Pm (by omega),va,vb]at l7
  have ay:=uQ dD
  rw[hD]at ay
  have c2:c=0:=by
   apply Int.le_antisymm _ c0
   apply Dt
   intro hc
   have:c=1:=by omega
   subst this
   omega
  subst c2
  have hvD:vI D=((a-b:Nat):Int):=by omega
  simp[h5]
  refine aA (Hp ho.sl (by omega)) ?_
  rintro v2 h2 n2 k2 q2
  rw[Gc dD hvD]at q2
  simp[az,hW]
  exact⟨hK.trans k2,q2⟩
def Yfc{a b:Nat}:(0<=Bl a b)↔b<=a:=by unfold Bl;split<;>(try split)<;>omega
def Ymn{h:T O}{N:Nat}{x y:V}{a b:Int}(hx:Rg h N x a)(hy:Rg h N y b)(l1:(ds a.natAbs).length<500000000000)(l2:(ds b.natAbs).length<500000000000):Fn A.C 258 [x,y] h N (fun u h' n'=>Rg h' n' u (a+b)):=by
 intro w
 obtain⟨u,rfl,hu⟩:=hx
 obtain⟨v,rfl,hv⟩:=hy
 have o1:=Sl.form hu |>.one
 have o2:=Sl.form hu |>.cells
 have o3:=Sl.form hv |>.one
 have o4:=Sl.form hv |>.cells
 unfold V.one at o1 o3
 unfold V.cells at o2 o4
 have kB:=((((ab.refl (h:=h) (n:=N)).new (.cells [.bool (decide (a<0)),u] 139 true)).new (.cells [.bool (decide (b<0)),v] 139 true)).new (.cells [.bool false,.aa] 139 true))
 rw[aO,A.k258 (by simp)]
 generalize hB:((h.set N (.cells [.bool (decide (a<0)),u] 139 true)).set (N+1) (.cells [.bool (decide (b<0)),v] 139 true)).set (N+1+1) (.cells [.bool false,.aa] 139 true)=HB at kB
 have gr:HB.get (N+1+1)=some (.cells [.bool false,.aa] 139 true):=by rw[<-hB];simp
 have gx:HB.get N=some (.cells [.bool (decide (a<0)),u] 139 true):=by rw[<-hB];simp
 have gy:HB.get (N+1)=some (.cells [.bool (decide (b<0)),v] 139 true):=by rw[<-hB];simp
 by_cases CM:decide (a<0)=decide (b<0)
 ·have yK:(decide (a<0)==decide (b<0))=true:=by rw[CM];simp
  simp[A.b258,o1,o3,aS,aI,yK]
  simp only[hB]
  refine aA (Ymi (Sl.ae hu kB) (Sl.ae hv kB) (fT _) (fT _) (by omega) (by omega)) ?_
  rintro v1 h1 n1 k1 ⟨l,q1,q2,q3,q4⟩
  rw[fZ,fZ]at q3
  have ez:(if decide (a<0)=true then -((a.natAbs+b.natAbs:Nat):Int) else ((a.natAbs+b.natAbs:Nat):Int))=a+b:=by
   by_cases h1:a<0<;>by_cases h2:b<0<;>simp[h1,h2]at CM ⊢<;>omega
  simp[]
  refine aA (xn (b:=decide (a<0)) (n:=a.natAbs+b.natAbs) q1 q2 (by rw[q3];try simp) (by omega)) ?_
  rintro v2 h2 n2 k2 dK
  rw[ez]at dK
  have yi:=k1.le
  have kI:=k2.le
  have g1:=(k2.get (N+1+1) (by omega)).trans ((k1.get (N+1+1) (by omega)).trans gr)
  obtain⟨u2,rfl,fu⟩:=dK
  have p1:=Sl.form fu |>.one
  have p2:=Sl.form fu |>.cells
  unfold V.one at p1
  unfold V.cells at p2
  simp[g1,p1,ad,bO,aS,aE,az,cA.cB]
  exact⟨by split<;>simp[ax],((kB.trans k1).trans k2).set (by omega),u2,rfl,Sl.setInt fu g1 je rfl⟩
 ·have yK:(decide (a<0)==decide (b<0))=false:=by simpa using CM
  have xU:=fun w=>Xu (w:=w) (Sl.ae hu kB) (Sl.ae hv kB) (by omega) (by omega)
  by_cases oH:b.natAbs<=a.natAbs
  ·have Aa:0<=Bl a.natAbs b.natAbs:=Yfc.2 oH
   simp[A.b258,o1,o3,aS,aI,yK]
   simp only[hB]
   simp[xU,Aa,gx,gy,aS]
   refine aA (Yb0 (Sl.ae hu kB) (Sl.ae hv kB) oH (by omega)) ?_
   rintro v1 h1 n1 k1 q1
   have q2:=fT (a.natAbs-b.natAbs)
   have q3:=fZ (a.natAbs-b.natAbs)
   have q4:=tW (Nat.sub_le a.natAbs b.natAbs)
   have ez:(if decide (a<0)=true then -((a.natAbs-b.natAbs:Nat):Int) else ((a.natAbs-b.natAbs:Nat):Int))=a+b:=by
    by_cases h1:a<0<;>by_cases h2:b<0<;>simp[h1,h2]at CM ⊢<;>omega
   simp[]
   refine aA (xn (b:=decide (a<0)) (n:=a.natAbs-b.natAbs) q1 q2 (by rw[q3];try simp) (by omega)) ?_
   rintro v2 h2 n2 k2 dK
   rw[ez]at dK
   have yi:=k1.le
   have kI:=k2.le
   have g1:=(k2.get (N+1+1) (by omega)).trans ((k1.get (N+1+1) (by omega)).trans gr)
   obtain⟨u2,rfl,fu⟩:=dK
   have p1:=Sl.form fu |>.one
   have p2:=Sl.form fu |>.cells
   unfold V.one at p1
   unfold V.cells at p2
   simp[g1,p1,ad,bO,aS,aE,az,cA.cB]
   exact⟨by split<;>simp[ax],((kB.trans k1).trans k2).set (by omega),u2,rfl,Sl.setInt fu g1 je rfl⟩
  ·have Aa:¬0<=Bl a.natAbs b.natAbs:=fun hc=>oH (Yfc.1 hc)
   simp[A.b258,o1,o3,aS,aI,yK]
   simp only[hB]
   simp[xU,Aa,gx,gy,aS]
   refine aA (Yb0 (Sl.ae hv kB) (Sl.ae hu kB) (by omega) (by omega)) ?_
   rintro v1 h1 n1 k1 q1
   have q2:=fT (b.natAbs-a.natAbs)
   have q3:=fZ (b.natAbs-a.natAbs)
   have q4:=tW (Nat.sub_le b.natAbs a.natAbs)
   have ez:(if decide (b<0)=true then -((b.natAbs-a.natAbs:Nat):Int) else ((b.natAbs-a.natAbs:Nat):Int))=a+b:=by
    by_cases h1:a<0<;>by_cases h2:b<0<;>simp[h1,h2]at CM ⊢<;>omega
   simp[]
   refine aA (xn (b:=decide (b<0)) (n:=b.natAbs-a.natAbs) q1 q2 (by rw[q3];try simp) (by omega)) ?_
   rintro v2 h2 n2 k2 dK
   rw[ez]at dK
   have yi:=k1.le
   have kI:=k2.le
   have g1:=(k2.get (N+1+1) (by omega)).trans ((k1.get (N+1+1) (by omega)).trans gr)
   obtain⟨u2,rfl,fu⟩:=dK
   have p1:=Sl.form fu |>.one
   have p2:=Sl.form fu |>.cells
   unfold V.one at p1
   unfold V.cells at p2
   simp[g1,p1,ad,bO,aS,aE,az,cA.cB]
   exact⟨by split<;>simp[ax],((kB.trans k1).trans k2).set (by omega),u2,rfl,Sl.setInt fu g1 je rfl⟩
variable {n:Nat}
def A.nk:av:=.seq (sr [mv 6 0,bc 7 .gtr 6 0,mv 8 7,mh 9 5 8,gz 10 8 (.len 0 (tq 9)),mh 11 1 8,gz 12 8 (.bin .lss (.node []) false (tq 10) (tq 11)),pt 13 8 12]
 (cd 13
 (.skip)
 (.exit 0)))
 (.block 1 (sr [mv 14 0,bc 15 .rem 14 10,mv 16 0,bc 17 .rem 16 10,bc 18 .add 17 1,ge 19 (.aD (.const (.str [48,49,50,51,52,53,54,55,56,57])) (some (tq 15)) (some (tq 18))),mv 20 5,bi 21 .add 19 20,mv 5 21]
 (.aR [mv 22 0,bc 23 .quo 22 10,mv 0 23])))
def A.b228:av:=sr [ge 4 (.ba (.const (.str [])))]
 (sr [ge 5 (.ba (.const (.str [])))]
 (.seq (.block 0 (.loop A.nk))
 (sr [mv 24 5,mv 4 24]
 (.ret))))
def A.c228:A.F 228=some ⟨25,[.tmp 4],A.b228⟩:=by kernel_rfl
def A.k228:=@A.kk 228 _ _ _ A.c228 rfl
def A.rb:av:=.seq (sr [mv 22 4,bc 23 .geq 22 0]
 (cd 23
 (.skip)
 (.exit 0)))
 (.seq (.block 1 (.aR [mv 26 3,fa 27 1 1,ld 28 27,mv 29 4,ia 30 1 28 29,ld 31 30,ge 32 (.call (fq 228) [tq 31,.const (.int .i64 9)]),bi 33 .add 26 32,mv 3 33]))
 (.aR [mv 24 4,bc 25 .sub 24 1,mv 4 25]))
def A.b230:av:=sr [bx 1 139 0,ge 2 (.ba (.const (.str [])))]
 (.seq (sr [fa 5 1 1,ld 6 5,ln 7 6,ei 8 7 0]
 (cd 8
 (sr [ge 2 (.ba (.const (.str [48])))]
 (.ret))
 (.skip)))
 (sr [fa 9 1 1,ld 10 9,fa 11 1 1,ld 12 11,ln 13 12,bc 14 .sub 13 1,ia 15 1 10 14,ld 16 15,ge 17 (.call (fq 228) [tq 16,.const (.int .i64 1)]),mv 3 17]
 (.seq (sr [fa 18 1 1,ld 19 18,ln 20 19,bc 21 .sub 20 2,mv 4 21]
 (.block 0 (.loop A.rb)))
 (.seq (sr [fa 34 0 1,ld 35 34]
 (cd 35
 (sr [mv 36 3,ge 37 (.bin .add (.node []) false (.const (.str [45])) (tq 36)),mv 2 37]
 (.ret))
 (.skip)))
 (sr [mv 38 3,mv 2 38]
 (.ret))))))
def A.c230:A.F 230=some ⟨39,[.tmp 2],A.b230⟩:=by kernel_rfl
def A.k230:=@A.kk 230 _ _ _ A.c230 rfl
def Yez:ic 0 0=[]:=by simp[ic,tf]
def Ye0{m:Nat}(h:n≠0\/0<m):ic n m=ic (n/10) (m-1)++[dc n]:=by
 unfold ic
 by_cases hn:n=0
 ·subst hn
  have hm:0<m:=by omega
  simp only[tf,Nat.zero_div,List.length_nil,Nat.sub_zero,zn]
  obtain⟨k,rfl⟩:∃k,m=k+1:=⟨m-1,by omega⟩
  have:dc 0=48:=by decide
  rw[this,List.replicate_succ',Nat.add_sub_cancel]
 ·rw[xc hn]
  have:m-(di (n/10)++[dc n]).length=m-1-(di (n/10)).length:=by simp;omega
  rw[this,tL]
def Yok{k:Nat}(hk:k<10):(Uk.take (k+1)).drop k=[dc k]:=by
 have:k=0\/k=1\/k=2\/k=3\/k=4\/k=5\/k=6\/k=7\/k=8\/k=9:=by omega
 rcases this with rfl|rfl|rfl|rfl|rfl|rfl|rfl|rfl|rfl|rfl<;>decide
def Yon(n:Nat):dc (n%10)=dc n:=by unfold dc;rw[Nat.mod_mod]
def Js{m:Nat}{st:St}(hn:n<9223372036854775808)(hm:m<1000):A.C.call (.func 228 [] []) [.int .i64 n,.int .i64 m] st=some (.str (ic n m),st):=by
 apply Call.eq
 rw[aO,A.k228 (by simp)]
 simp[A.b228]
 have hlen:(ic n m).length<2000:=by
  have:(di n).length<=19:=pd.1 (by omega)
  unfold ic
  simp;omega
 refine bP [(0,0),(5,23)] (fun e r s1=>s1=⟨st.h,st.n,[]⟩/\e=.exit 0/\r.get 5=some (.str (ic n m))) (fun q r s1=>s1=⟨st.h,st.n,[]⟩/\∃k s,q=k+(m-s.length)/\k<9223372036854775808/\r.get 0=some (.int .i64 k)/\r.get 5=some (.str s)/\ic n m=ic k (m-s.length)++s) (n+m) ?_ ?_ ?_
 ·exact⟨rfl,n,[],by simp,hn,by simp,by simp,by simp⟩
 ·rintro q r _ hr hf ⟨rfl,k,s,rfl,hk,h0,h5,hd⟩
  rw[bq]
  by_cases tc:k≠0\/0<m-s.length
  ·have dH:=Ye0 (n:=k) (m:=m-s.length) tc
   rw[dH,tL,Ox]at hd
   have cE:s.length+1<2000:=by
    have:=congrArg List.length hd
    simp at this;omega
   have t1:(k:Int).tmod 10=((k%10:Nat):Int):=by rw[Ds (by omega)];omega
   have t2:(k:Int).tdiv 10=((k/10:Nat):Int):=by rw[AK (by omega)];omega
   have t3:bu .i64 ((k/10:Nat):Int)=((k/10:Nat):Int):=cF (by omega) (by omega)
   have t4:bu .i64 (((k%10:Nat):Int)+1)=((k%10+1:Nat):Int):=by rw[cF (by omega) (by omega)];omega
   have M9:¬(9223372036854775807:Int)<1+(s.length:Int):=by omega
   have dh:IntKind.max .i64=9223372036854775807:=rfl
   have sl:∀st:St,tk st (some (.str [48,49,50,51,52,53,54,55,56,57])) (some (some (.int .i64 ((k:Int)%10)))) (some (some (.int .i64 ((k:Int)%10+1))))=some (.str [dc k],st):=fun st=>by
    rw[Zph (by omega) (by omega) (by simp;omega)]
    have e1:((k:Int)%10).toNat=k%10:=by omega
    have e2:((k:Int)%10+1).toNat=k%10+1:=by omega
    rw[e1,e2]
    have:=Yok (k:=k%10) (by omega)
    rw[Yon]at this
    exact congrArg (fun x=>some (V.str x,st)) this
   have GB:0<k\/(¬0<k/\s.length<m):=by omega
   rcases GB with g1|⟨g1,g2⟩
   ·have i1:(0:Int)<(k:Int):=by omega
    simp(disch:=first|(simp;done)|omega|rfl) [A.nk,hf,h0,h5,g1,t1,t2,gO,dh,sl,M9]
    exact⟨k/10+(m-(s.length+1)),by omega,k/10,dc k::s,by simp,by omega,by simp,by simp,by rw[hd,bD,Nat.sub_sub]⟩
   ·have i1:¬(0:Int)<(k:Int):=by omega
    have i2:(s.length:Int)<(m:Int):=by omega
    simp(disch:=first|(simp;done)|omega|rfl) [A.nk,hr,hf,h0,h5,g1,i2,t1,t2,gO,dh,sl,M9]
    exact⟨k/10+(m-(s.length+1)),by omega,k/10,dc k::s,by simp,by omega,by simp,by simp,by rw[hd,bD,Nat.sub_sub]⟩
  ·have g1:¬0<k:=by omega
   have g2:¬s.length<m:=by omega
   have i1:¬(0:Int)<(k:Int):=by omega
   have i2:¬(s.length:Int)<(m:Int):=by omega
   obtain rfl:k=0:=by omega
   rw[show m-s.length=0 by omega,Yez,List.nil_append]at hd
   simp[A.nk,hr,hf,h0,h5,i2,hd]
 ·rintro _ r _ hr ⟨rfl,rfl,h5⟩
  simp[h5]
def Na:(aq n).length<=9*(ds n).length+1:=by
 have h1:n<10^(9*(ds n).length):=by
  have h2:=uQ (fT n)
  rw[fZ,QC]at h2
  have h3:=Int.ofNat_lt.1 h2
  rw[Nat.pow_mul]
  exact h3
 have:=pd.1 h1
 unfold aq
 split<;>simp<;>omega
def Zvp{k:Nat}:(aq (n/k)).length<=9*(ds n).length+1:=by
 have h1:=Na (n:=n/k)
 have h2:=tW (uH n k)
 omega
def Jt{h:T O}{N:Nat}{x:V}{z:Int}(hx:Rg h N x z)(hl:(ds z.natAbs).length<100000000000):Fn A.C 230 [x] h N (fun u _ _=>u=.str (aN z)):=by
 intro w
 obtain⟨u,rfl,hu⟩:=hx
 have o1:=Sl.form hu |>.one
 have o2:=Sl.form hu |>.cells
 unfold V.one at o1
 unfold V.cells at o2
 have kB:=((ab.refl (h:=h) (n:=N)).new (.cells [.bool (decide (z<0)),u] 139 true))
 have fu:Sl (h.set N (.cells [.bool (decide (z<0)),u] 139 true)) (N+1) u (dI (ds z.natAbs)):=Sl.ae hu kB
 have lu:=fu.len
 rw[gk]at lu
 rw[aO,A.k230 (by simp)]
 by_cases h0:z=0
 ·subst h0
  have e0:(ds (0:Int).natAbs).length=0:=by rw[show (0:Int).natAbs=0 from rfl,sO];rfl
  rw[e0]at lu
  have e1:aN 0=[48]:=by decide
  simp[A.b230,o1,lu,az,e1]
  exact kB
 obtain⟨n,hn⟩:∃n,z.natAbs=n:=⟨_,rfl⟩
 rw[hn]at lu fu hl
 have Bm:n≠0:=by omega
 have qi:(ds n).length≠0:=fun hc=>Bm (B7.1 (qj hc))
 obtain⟨L,hL⟩:∃L,(ds n).length=L+1:=⟨(ds n).length-1,by omega⟩
 have xQ:=fun (k:Nat)=>Zvp (n:=n) (k:=k)
 rw[hL]at lu
 obtain⟨f,hF⟩:∃f:Nat->aQ,∀m,f m=aq (n/1000000000^m):=⟨_,fun _=>rfl⟩
 obtain⟨g,hG⟩:∃g:Nat->Nat,∀m,g m=n/1000000000^m%1000000000:=⟨_,fun _=>rfl⟩
 have tY:f 0=aq n:=by rw[hF];simp
 have xl:∀m,g m<1000000000:=fun m=>by rw[hG];exact kh _ (by omega)
 have hg:∀m,m<L+1->(ds n)[m]?=some (g m):=fun m hm=>by rw[hG];exact Pj (by omega)
 have QD:f L=ic (g L) 1:=by rw[hF,hG];exact Yi7 hL.symm
 have Co:∀m,m<L->f m=f (m+1)++ic (g m) 9:=fun m hm=>by rw[hF,hF,hG];exact Ye1 (by omega)
 have nI:∀m,(f m).length<=9*(L+1)+1:=fun m=>by rw[hF,<-hL];exact xQ _
 clear hF hG xQ
 obtain⟨i,o,c,e,rw,q1,q2,q3,q4⟩:=fu.at (gl (hg L (by omega)))
 have c1:¬((L:Int)+1=0):=by omega
 have c2:((L:Int)+1-1)=(L:Int):=by omega
 have c3:(L:Int)<(L:Int)+1:=by omega
 have c4:((L:Int)+1-2)=(L:Int)-1:=by omega
 have c5:bu .i64 ((L:Int)+1-1)=(L:Int):=by rw[c2];exact cF (by omega) (by omega)
 have c6:bu .i64 ((L:Int)+1-2)=(L:Int)-1:=by rw[c4];exact cF (by omega) (by omega)
 have Hh:∀m st,A.C.call (.func 228 [] []) [.int .i64 (g m),.int .i64 1] st=some (.str (ic (g m) 1),st):=fun m st=>Js (n:=g m) (m:=1) (st:=st) (by have:=xl m;omega) (by omega)
 have pJ:∀m st,A.C.call (.func 228 [] []) [.int .i64 (g m),.int .i64 9] st=some (.str (ic (g m) 9),st):=fun m st=>Js (n:=g m) (m:=9) (st:=st) (by have:=xl m;omega) (by omega)
 simp(disch:=omega) [A.b230,o1,lu,c1,c2,c6,q1,q3,q4,Hh]
 rw[<-QD]
 refine bP [(3,4),(22,33)] (fun e r s1=>s1=⟨h.set N (.cells [.bool (decide (z<0)),u] 139 true),N+1,[]⟩/\e=.exit 0/\r.get 1=some (.ptr N 0)/\r.get 3=some (.str (aq n))) (fun m r s1=>s1=⟨h.set N (.cells [.bool (decide (z<0)),u] 139 true),N+1,[]⟩/\m<=L/\r.get 1=some (.ptr N 0)/\r.get 4=some (.int .i64 ((m:Int)-1))/\r.get 3=some (.str (f m))) L ?_ ?_ ?_
 ·exact⟨rfl,by omega,by simp,by simp,by simp⟩
 ·rintro m r _ hr hf ⟨rfl,hm,h1,h4,h3⟩
  rw[bq]
  rcases m with _|m
  ·have e1:(((0:Nat):Int)-1<0):=by omega
   rw[tY]at h3
   simp[A.rb,hr,hf,h3,h4]
  ·have e3:(((m+1:Nat):Int)-1)=(m:Int):=by omega
   have e4:¬((m:Int)<0):=by omega
   rw[e3]at h4
   obtain⟨i,o,c,e,rw,q1,q2,q3,q4⟩:=fu.at (gl (hg m (by omega)))
   have hp:(f m).length=(f (m+1)).length+(ic (g m) 9).length:=by rw[Co m (by omega),iN]
   have yz:¬(9223372036854775807:Int)<((f (m+1)).length:Int)+((ic (g m) 9).length:Int):=by have:=nI m;omega
   have dh:IntKind.max .i64=9223372036854775807:=rfl
   have w1:bu .i64 ((m:Int)-1)=(m:Int)-1:=cF (by omega) (by omega)
   have c7:(m:Int)<(L:Int)+1:=by omega
   have f1:=(Co m (by omega)).symm
   have f2:m<m+1/\m<=L:=by omega
   have yW:=pJ m
   clear hp qi Bm hn hm hl hL Co nI pJ Hh QD hg xl tY
   simp[A.rb,hr,hf,h3,h4,lu,c7,q1,q3,q4,yW,gO,dh,yz,w1,f1]
   exact⟨m,f2.1,f2.2,rfl,rfl⟩
 ·rintro _ r _ hr ⟨rfl,rfl,h1,h3⟩
  have kO:=Na (n:=n)
  have dh:IntKind.max .i64=9223372036854775807:=rfl
  have cE:¬(9223372036854775807:Int)<1+((aq n).length:Int):=by omega
  by_cases hz:z<0
  ·have e1:aN z=45::aq n:=by unfold aN;rw[aF hz,hn]
   clear kO qi Bm hn hL Co nI pJ Hh QD hg xl tY hl
   simp[hr,h3,hz,gO,dh,cE,az,e1]
   simpa[hz]using kB
  ·have e1:aN z=aq n:=by unfold aN;rw[ar hz,hn]
   clear kO qi Bm hn hL Co nI pJ Hh QD hg xl tY hl
   simp[hr,h3,hz,az,e1]
   simpa[hz]using kB
open Go
def Yq9{P d1 d2 d3 v1 v2 U' V' t r:Int}(hP:0<P)(GO:0<=U')(hU:U'<P)(wQ:0<=V')(hV:V'<P)(h1:0<=d1)(fH:d1<1000000000)(h2:0<=d2)(h3:0<=d3)(w1:500000000<=v1)(w2:0<=v2)(w2':v2<1000000000)
  (hW:U'+P*(d1+1000000000*(d3*1000000000+d2))<1000000000*(V'+P*(v2+1000000000*v1))) (ht:d3*1000000000+d2=t*v1+r) (eC:0<=r) (jm:r<v1):
  0<=t/\t<=1000000001/\U'+P*(d1+1000000000*(d3*1000000000+d2))<(t+1)*(V'+P*(v2+1000000000*v1)):=by
 generalize hT:d3*1000000000+d2=T at*
 have hT0:0<=T:=by omega
 have t0:0<=t:=by
  apply Dt;intro hc
  have:t*v1<=(-1)*v1:=Dr (by omega) (by omega)
  omega
 have a1:T<1000000000*(v1+1):=by
  apply Iq;intro hc
  have b1:P*(1000000000*(v1+1))<=P*T:=qt hc (by omega)
  have b2:0<=P*d1:=wL (by omega) h1
  have b3:P*v2<=P*999999999:=qt (by omega) (by omega)
  have b4:P*(d1+1000000000*T)=P*d1+1000000000*(P*T):=by grind
  have b5:P*(v2+1000000000*v1)=P*v2+1000000000*(P*v1):=by grind
  have b6:P*(1000000000*(v1+1))=1000000000*(P*v1)+1000000000*P:=by grind
  omega
 have a2:t<=1000000001:=by
  apply Dt;intro hc
  have b1:1000000002*v1<=t*v1:=Dr (by omega) (by omega)
  omega
 refine⟨t0,a2,?_⟩
 have c1:(t+1)*v1=t*v1+v1:=by grind
 have b1:P*(T+1)<=P*((t+1)*v1):=qt (by omega) (by omega)
 have b2:P*d1<=P*999999999:=qt (by omega) (by omega)
 have b3:0<=(t+1)*V':=wL (by omega) wQ
 have b4:0<=(t+1)*(P*v2):=wL (by omega) (wL (by omega) w2)
 have b5:P*(d1+1000000000*T)=P*d1+1000000000*(P*T):=by grind
 have b6:(t+1)*(V'+P*(v2+1000000000*v1))=(t+1)*V'+(t+1)*(P*v2)+1000000000*(P*((t+1)*v1)):=by grind
 have b7:P*(T+1)=P*T+P:=by grind
 omega
set_option maxHeartbeats 2000000
def A.im:av:=.seq (.seq (.aX [mv 42 9,bc 43 .geq 42 1000000000,mv 44 43,mh 45 9 44,mh 46 1 44,mh 47 7 44,gz 48 44 (.bin .sub (.node []) false (tq 47) (kq 2)),gz 49 44 (.aU 1 (tq 46) (tq 48)),gz 50 44 (.load none (tq 49)),gz 51 44 (.bin .mul (.node []) false (tq 45) (tq 50)),mh 52 10 44,gz 53 44 (.bin .mul (.node []) false (tq 52) (kq 1000000000)),mh 54 0 44,mh 55 2 44,mh 56 7 44,gz 57 44 (.bin .add (.node []) false (tq 55) (tq 56)),gz 58 44 (.bin .sub (.node []) false (tq 57) (kq 2)),gz 59 44 (.aU 1 (tq 54) (tq 58)),gz 60 44 (.load none (tq 59)),gz 61 44 (.bin .add (.node []) false (tq 53) (tq 60)),gz 62 44 (.bin .gtr (.node []) false (tq 51) (tq 61)),pt 63 44 62] [0,1,3,7,7,7,39,119,247,511,7,1031,7,7,7,24583,57351,126983,258055,523271,1048575,2097151])
 (cd 63
 (.skip)
 (.exit 0)))
 (.block 1 (sr [mv 64 9,bc 65 .sub 64 1,mv 9 65]
 (sr [mv 66 10,mv 67 1,mv 68 7,bc 69 .sub 68 1,ia 70 1 67 69,ld 71 70,bi 72 .add 66 71,mv 10 72]
 (sr [mv 73 10,bc 74 .geq 73 1000000000]
 (cd 74
 (sr [mv 75 9,mv 6 75]
 (.ret))
 (.skip))))))
def A.b225:av:=sr [mc 6 0]
 (sr [mv 11 1,ln 12 11,mv 7 12]
 (.seq (.aX [mv 13 0,mv 14 2,mv 15 7,bi 16 .add 14 15,ia 17 1 13 16,ld 18 17,bc 19 .mul 18 1000000000,mv 20 0,mv 21 2,mv 22 7,bi 23 .add 21 22,bc 24 .sub 23 1,ia 25 1 20 24,ld 26 25,bi 27 .add 19 26,mv 8 27] [0,0,0,6,15,31,63,0,0,0,768,1792,3968,8064,16383,32767])
 (.seq (.aX [mv 28 8,mv 29 1,mv 30 7,bc 31 .sub 30 1,ia 32 1 29 31,ld 33 32,bi 34 .quo 28 33,mv 35 8,mv 36 1,mv 37 7,bc 38 .sub 37 1,ia 39 1 36 38,ld 40 39,bi 41 .rem 35 40,mv 9 34,mv 10 41] [0,0,0,4,14,30,63,0,0,0,512,1792,3840,8064,127,32767])
 (.seq (.block 0 (.loop A.im))
 (sr [mv 76 9,mv 6 76]
 (.ret))))))
def A.c225:A.F 225=some ⟨77,[.tmp 6],A.b225⟩:=by kernel_rfl
def A.k225:=@A.kk 225 _ _ _ A.c225 rfl
structure GuR (W D v1 top:Int) (m:Nat) (r:T V):Prop where
 ex:∃t q:Int,t.toNat=m/\r.get 9=some (.int .i64 t)/\r.get 10=some (.int .i64 q)/\0<=t/\t<=1000000001/\0<=q/\q<1000000000/\top=t*v1+q/\W<(t+1)*D
def Yio{h:T O}{N:Nat}{u v:V}{L Y:List Int}{j k:Nat}{d1 d2 d3 v1 v2 P U' V' W D:Int}{w:List Nat}(hu:Sl h N u (dI L))(hv:Sl h N v (dI Y))(hY:Y.length=k+2)(hL:L.length<1099511627776)(e1:L[j+k]?=some d1)(e2:L[j+k+1]?=some d2)(e3:L[j+k+2]?=some d3)(f2:Y[k]?=some v2)(f1:Y[k+1]?=some v1)
  (r1:0<=d1/\d1<1000000000) (r2:0<=d2/\d2<1000000000) (r3:0<=d3/\d3<1000000000) (r4:500000000<=v1/\v1<1000000000) (r5:0<=v2/\v2<1000000000) (hP:0<P) (GO:0<=U') (hU:U'<P) (wQ:0<=V') (hV:V'<P) (hW:W=U'+P*(d1+1000000000*(d3*1000000000+d2))) (hD:D=V'+P*(v2+1000000000*v1)) (hWD:W<1000000000*D):
  ∃t,A.C.call (.func 225 [] []) [u,v,.int .i64 j] ⟨h,N,w⟩=some (.int .i64 t,⟨h,N,w⟩)/\0<=t/\t<=1000000000/\(t-1)*D<=W/\W<(t+1)*D:=by
 have lu:=hu.len
 have lv:=hv.len
 rw[gk]at lu lv
 rw[hY]at lv
 have rV:=j_ e3
 have goal:Call A.C (.func 225 [] []) [u,v,.int .i64 j] ⟨h,N,w⟩ (fun x s=>s=⟨h,N,w⟩/\∃t,x=.int .i64 t/\0<=t/\t<=1000000000/\(t-1)*D<=W/\W<(t+1)*D):=by
  obtain⟨a1,a2,a3,a4,a5,x1,x2,x3,x4⟩:=hu.at (gl e1)
  obtain⟨tU,a2',a3',a4',a5',XW,x2',XX,Ju⟩:=hu.at (gl e2)
  obtain⟨zaP,zaQ,zaR,zaS,zaT,Hu,zaU,Hv,xX⟩:=hu.at (gl e3)
  rw[x1]at XW Hu
  simp only[al,bF]at XW Hu
  obtain⟨rfl,rfl⟩:=XW
  obtain⟨rfl,rfl⟩:=Hu
  rw[x3]at XX Hv
  simp only[al,O.cells.injEq]at XX Hv
  obtain⟨rfl,rfl,rfl⟩:=XX
  obtain⟨rfl,_,_⟩:=Hv
  obtain⟨b1,b2,b3,b4,b5,y1,y2,y3,y4⟩:=hv.at (gl f2)
  obtain⟨b1',b2',b3',b4',b5',XY,y2',XZ,Jv⟩:=hv.at (gl f1)
  rw[y1]at XY
  simp only[al,bF]at XY
  obtain⟨rfl,rfl⟩:=XY
  rw[y3]at XZ
  simp only[al,O.cells.injEq]at XZ
  obtain⟨rfl,_,_⟩:=XZ
  have c1:((k:Int)+2-1)=(k:Int)+1:=by omega
  have c2:((j:Int)+((k:Int)+2)-1)=(j:Int)+(k:Int)+1:=by omega
  have c3:((j:Int)+((k:Int)+2)-2)=(j:Int)+(k:Int):=by omega
  have c4:((k:Int)+2-2)=(k:Int):=by omega
  have c5:((j:Int)+((k:Int)+2))=(j:Int)+(k:Int)+2:=by omega
  have i1:(j:Int)+(k:Int)+2<(L.length:Int):=by omega
  have i2:(j:Int)+(k:Int)+1<(L.length:Int):=by omega
  have i3:(j:Int)+(k:Int)<(L.length:Int):=by omega
  have i4:(0:Int)<=(j:Int)+(k:Int)+2:=by omega
  have i5:(0:Int)<=(j:Int)+(k:Int)+1:=by omega
  have i6:(0:Int)<=(j:Int)+(k:Int):=by omega
  have n1:((j:Int)+(k:Int)+2).toNat=j+k+2:=by omega
  have n2:((j:Int)+(k:Int)+1).toNat=j+k+1:=by omega
  have n3:((j:Int)+(k:Int)).toNat=j+k:=by omega
  have n4:((k:Int)+1).toNat=k+1:=by omega
  have k1:(k:Int)+1<(k:Int)+2:=by omega
  have k2:(k:Int)<(k:Int)+2:=by omega
  have k3:(0:Int)<=(k:Int)+1:=by omega
  have u1:bu .i64 (d3*1000000000)=d3*1000000000:=cF (by omega) (by omega)
  have u2:bu .i64 (d3*1000000000+d2)=d3*1000000000+d2:=cF (by omega) (by omega)
  have s0:0<=d3*1000000000+d2:=by omega
  have v0:¬v1=0:=by omega
  have t1:(d3*1000000000+d2).tdiv v1=(d3*1000000000+d2)/v1:=AK s0
  have t2:(d3*1000000000+d2).tmod v1=(d3*1000000000+d2)%v1:=Ds s0
  have t3:=Dv (d3*1000000000+d2) v1
  have t4:=Dy (d3*1000000000+d2) v0
  have t5:=Dw (d3*1000000000+d2) (b:=v1) (by omega)
  have gi:=Yq9 (t:=(d3*1000000000+d2)/v1) (r:=(d3*1000000000+d2)%v1) hP GO hU wQ hV r1.1 r1.2 r2.1 r3.1 r4.1 r5.1 r5.2 (by rw[<-hW,<-hD];exact hWD) (by rw[Int.mul_comm (_/_) v1];exact t3.symm) t4 t5
  rw[<-hW,<-hD]at gi
  obtain⟨g1,g2,g3⟩:=gi
  have t6:bu .i64 ((d3*1000000000+d2)/v1)=(d3*1000000000+d2)/v1:=cF (by omega) (by omega)
  rw[aO,A.k225 (by simp)]
  simp(disch:=first|(simp;done)|omega|rfl) [A.b225,lv,lu,c1,c5,n1,n4,x1,x2,x3,Ju,xX,y1,y2,y3,Jv,u1,u2,t1,t2,t6]
  generalize Ac:d3*1000000000+d2=D1 at*
  refine bP [(6,6),(9,10),(42,75)] (fun e r st=>st=⟨h,N,[]⟩/\((e=.exit 0/\∃t,r.get 9=some (.int .i64 t)/\0<=t/\t<=1000000000/\(t-1)*D<=W/\W<(t+1)*D)\/(e=.ret/\∃t,r.get 6=some (.int .i64 t)/\0<=t/\t<=1000000000/\(t-1)*D<=W/\W<(t+1)*D))) (fun m r st=>st=⟨h,N,[]⟩/\GuR W D v1 D1 m r) (D1/v1).toNat ?_ ?_ ?_
  ·exact⟨rfl,⟨D1/v1,D1%v1,rfl,by simp,by simp,g1,g2,t4,by omega,by rw[Int.mul_comm (_/_) v1];exact t3.symm,g3⟩⟩
  ·rintro m r _ hr hf ⟨rfl,⟨t,q,rfl,h9,gY,QE,tq1,q0,q1,jM,ay⟩⟩
   rw[bq]
   by_cases hA:1000000000<=t
   ·have ay:W<t*D:=by
     have d0:0<=D:=by
      have:=wL (tO hP) (show 0<=v2+1000000000*v1 by omega)
      omega
     have:=Dr hA d0
     omega
    have tp:1<=t:=by omega
    have jV:bu .i64 (q+v1)=q+v1:=cF (by omega) (by omega)
    have xe:bu .i64 (t-1)=t-1:=cF (by omega) (by omega)
    have e5:D1=t*v1+q:=jM
    have e6:(t-1)*v1+(q+v1)=t*v1+q:=by grind
    by_cases oH:1000000000<=q+v1
    ·simp(disch:=first|(simp;done)|omega|rfl) [A.im,hr,hf,h9,gY,lv,c1,n4,y1,y3,Jv,hA,jV,xe,oH]
     refine⟨by omega,by omega,?_,ay⟩
     have m1:(t-1)*v2<=1000000000*v2:=Dr (by omega) r5.1
     have:=Uh (t:=t-1) (r:=q+v1) (v1:=v1) (u1:=D1) hP GO r1.1 s0 (by omega) r5.1 wQ hV (by omega) (by omega) (by rw[e6];exact jM) (by omega)
     rw[hW,hD]
     exact this
    ·simp(disch:=first|(simp;done)|omega|rfl) [A.im,hr,hf,h9,gY,lv,c1,n4,y1,y3,Jv,hA,jV,xe,oH]
     exact⟨(t-1).toNat,by omega,⟨t-1,q+v1,rfl,by simp,by simp,by omega,by omega,by omega,by omega,by rw[e6];exact jM,by rw[show t-1+1=t by omega];exact ay⟩⟩
   ·have X0:¬1000000000<=t:=hA
    have m0:0<=t*v2:=wL QE r5.1
    have m1:t*v2<=1000000000*1000000000:=Int.mul_le_mul (by omega) (by omega) r5.1 (by omega)
    have b1':bu .i64 (t*v2)=t*v2:=cF (by omega) (by omega)
    have b2':bu .i64 (q*1000000000)=q*1000000000:=cF (by omega) (by omega)
    have b3':bu .i64 (q*1000000000+d1)=q*1000000000+d1:=cF (by omega) (by omega)
    by_cases hB:q*1000000000+d1<t*v2
    ·have ay:W<t*D:=by
      have:=Ynv (t:=t) (r:=q) (v1:=v1) (u1:=D1) hP hU wQ QE jM hB
      rw[hW,hD];exact this
     have tz:t≠0:=fun hc=>by rw[hc]at hB;simp at hB;omega
     have tp:1<=t:=by omega
     have jV:bu .i64 (q+v1)=q+v1:=cF (by omega) (by omega)
     have xe:bu .i64 (t-1)=t-1:=cF (by omega) (by omega)
     have e5:D1=t*v1+q:=jM
     have e6:(t-1)*v1+(q+v1)=t*v1+q:=by grind
     by_cases oH:1000000000<=q+v1
     ·simp(disch:=first|(simp;done)|omega|rfl) [A.im,hr,hf,h9,gY,lv,lu,c1,c4,c5,n3,n4,x1,x2,x3,x4,y1,y2,y3,y4,Jv,X0,b1',b2',b3',hB,jV,xe,oH]
      refine⟨by omega,by omega,?_,ay⟩
      have m1:(t-1)*v2<=1000000000*v2:=Dr (by omega) r5.1
      have:=Uh (t:=t-1) (r:=q+v1) (v1:=v1) (u1:=D1) hP GO r1.1 s0 (by omega) r5.1 wQ hV (by omega) (by omega) (by rw[e6];exact jM) (by omega)
      rw[hW,hD]
      exact this
     ·simp(disch:=first|(simp;done)|omega|rfl) [A.im,hr,hf,h9,gY,lv,lu,c1,c4,c5,n3,n4,x1,x2,x3,x4,y1,y2,y3,y4,Jv,X0,b1',b2',b3',hB,jV,xe,oH]
      exact⟨(t-1).toNat,by omega,⟨t-1,q+v1,rfl,by simp,by simp,by omega,by omega,by omega,by omega,by rw[e6];exact jM,by rw[show t-1+1=t by omega];exact ay⟩⟩
    ·simp(disch:=first|(simp;done)|omega|rfl) [A.im,hr,hf,h9,gY,lv,lu,c4,c5,n3,x1,x2,x3,x4,y1,y2,y3,y4,X0,b1',b2',b3',hB]
     refine⟨QE,by omega,?_,ay⟩
     have:=Uh (t:=t) (r:=q) (u1:=D1) hP GO r1.1 s0 (by omega) r5.1 wQ hV QE (by omega) jM (by omega)
     rw[hW,hD];exact this
  ·rintro e r _ hr ⟨rfl,⟨rfl,t,h9,ht⟩|⟨rfl,t,h6,ht⟩⟩
   ·simp[h9];exact ht
   ·simp[h6];exact ht
 obtain⟨x,s,hc,rfl,t,rfl,h1,h2,h3,h4⟩:=goal.ex
 exact⟨t,hc,h1,h2,h3,h4⟩
end Go.Mx
