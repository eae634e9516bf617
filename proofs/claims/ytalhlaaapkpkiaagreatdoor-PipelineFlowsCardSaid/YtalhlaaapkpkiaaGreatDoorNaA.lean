/-num-/
import Derived.Test.YtalhlaaapkpkiaaGreatDoorMxGr3
set_option linter.all false
namespace Go.Mx
open Go Go.Proofs
set_option maxHeartbeats 2000000
set_option maxRecDepth 1000000
noncomputable def A.w228:=A.q Tryz.f228
noncomputable def A.lb228_0:=A.ql A.w228 0 []
noncomputable def A.b228:=(fun x0=>A.qb A.w228 [x0]) A.lb228_0
def A.k228:=@A.kk 228 54 [.tmp 4] A.b228 (by kernel_rfl) rfl
structure Yrj (h:T O) (N x y k:Nat) (o:List Nat) (c:Nat) (r:T V) (st:St):Prop where
 hk:k≤(wds x).length
 r22:r.get 22=some (.int .i64 k)
 r6:r.get 6=some (.int .u64 c)
 n:st.n=N+1
 w:Zac N st.w=[]
 keep:Keeps h N st.h (N+1)
 row:st.h.get N=some (.cells (dg o) 265 true)
 len:o.length=(wds x).length+1
 ex:∃d,d.length=k∧o=d++List.replicate ((wds x).length+1-k) 0∧val B d+B^k*c=val B ((wds x).take k)+val B ((wds y).take k)∧c≤1∧Dg d
def Yrk(h:T O)(N x y m:Nat)(r:T V)(st:St):Prop:=∃k o c,m=(wds x).length-k∧Yrj h N x y k o c r st
def Yrl(h:T O)(N x y:Nat)(r:T V)(st:St):Prop:=∃o c,Yrj h N x y (wds x).length o c r st
def Yep{x y o d:List Nat}{k c xk:Nat}(hx:x[k]?=some xk)(d1:d.length=k)(d2:o=d++List.replicate (x.length+1-k) 0)(d3:val B d+B^k*c=val B (x.take k)+val B (y.take k))(d4:c≤1)(d5:Dg d)(gx:Dg x)(gy:Dg y):
  (d++[lo64 (xk+dz y k+c)]).length=k+1∧o.set k (lo64 (xk+dz y k+c))=(d++[lo64 (xk+dz y k+c)])++List.replicate (x.length+1-(k+1)) 0∧val B (d++[lo64 (xk+dz y k+c)])+B^(k+1)*hi64 (xk+dz y k+c)=val B (x.take (k+1))+val B (y.take (k+1))∧hi64 (xk+dz y k+c)≤1∧Dg (d++[lo64 (xk+dz y k+c)]):=by
 have hk:k<x.length:=by
  apply Yuh;intro hc;rw[Ytn hc]at hx;cases hx
 have hxk:=gx.get hx
 have hyk:=You gy k
 have hm:=Yus (xk+dz y k+c) B
 refine⟨by simp[d1],?_,?_,?_,?_⟩
 ·rw[d2,show x.length+1-k=(x.length-k)+1 by omega,Zpz d1,show x.length+1-(k+1)=x.length-k by omega]
 ·rw[Zlz,Zb8,Zb8,d1,show dz x k=xk by simp[dz,hx]]
  have e1:lo64 (xk+dz y k+c)=(xk+dz y k+c)%B:=rfl
  have e2:hi64 (xk+dz y k+c)=(xk+dz y k+c)/B:=rfl
  rw[e1,e2,Ytw]
  generalize (xk+dz y k+c)%B=lo at*
  generalize (xk+dz y k+c)/B=hi at*
  generalize B^k=p at*
  have:p*(B*hi+lo)=p*(xk+dz y k+c):=by rw[hm]
  grind
 ·show (xk+dz y k+c)/B≤1
  unfold B at*;omega
 ·intro e he
  rcases Yty.1 he with he|he
  ·exact d5 e he
  ·simp at he;subst he;exact Yuf _ (by decide)
def Yjo{x y:Nat}{o d:List Nat}{c:Nat}(hl:(wds y).length≤(wds x).length)(d1:d.length=(wds x).length)(d2:o=d++List.replicate ((wds x).length+1-(wds x).length) 0)(d3:val B d+B^(wds x).length*c=val B ((wds x).take (wds x).length)+val B ((wds y).take (wds x).length))(d4:c≤1)(d5:Dg d):Zgs (o.set (wds x).length c)=wds (x+y):=by
 rw[d2,show (wds x).length+1-(wds x).length=0+1 by omega,Zpz d1]
 simp only[List.replicate_zero,Yvs]
 rw[Zdj,Zlz,d1,d3,Ytd (Ys6 _),Ytd hl,Zbm,Zbm]
 intro e he
 rcases Yty.1 he with he|he
 ·exact d5 e he
 ·simp at he;subst he;unfold B;omega
def Zvg{h:T O}{N:Nat}{vx vy:V}{x y:Nat}(hx:Wn h N vx x)(hy:Wn h N vy y)(hxl:(wds x).length<1099511627776)(hyl:(wds y).length<1099511627776):Fn A.C 228 [vx,vy] h N (fun v' h' N'=>Wn h' N' v' (x+y)):=by
 intro w
 have lx:=hx.len
 have ly:=hy.len
 rw[Zaa]at lx ly
 rw[Zae,A.k228 (by simp)]
 by_cases hl:(wds x).length<(wds y).length
 ·simp(disch:=first|(simp;done)|omega|(simp only[Zaa,Zab,Ys4];omega)|rfl) [A.b228,lx,ly,hl]
  refine Zah [(6,8),(22,46)] (fun e r st=>e=.exit 0∧Yrl h N y x r st) (Yrk h N y x) (wds y).length ?_ ?_ ?_
  ·refine⟨0,List.replicate ((wds y).length+1) 0,0,by omega,⟨by omega,by simp,by simp,by simp,by simp,Keeps.refl.set (Ys6 _) |>.up (by omega),by simp[Zgi],by simp,[],by simp,by simp,by simp[val],by decide,by simp[Dg]⟩⟩
  ·rintro m r ⟨H,n1,W⟩ hr hf ⟨k,o,c,rfl,hk,h22,h6,hn,hW,hK,hN,ho,d,hd⟩
   simp only at hn hW hK hN
   subst hn
   rw[Zai]
   by_cases hlt:k<(wds y).length
   ·obtain⟨i1,o1,c1,e1,w1,p1,p2,p3,p4⟩:=hy.at (Za5 (Yta hlt))
    have p3:=(hK.get _ p2).trans p3
    obtain⟨d1,d2,d3,d4,d5⟩:=hd
    have hsp:=Yep (x:=wds y) (y:=wds x) (Yta hlt) d1 d2 d3 d4 d5 (Zdi y) (Zdi x)
    by_cases hky:k<(wds x).length
    ·obtain⟨i2,o2,c2,e2,w2,q1,q2,q3,q4⟩:=hx.at (Za5 (Yta hky))
     have q3:=(hK.get _ q2).trans q3
     have hz:dz (wds x) k=(wds x)[k]:=by simp[dz,Yta hky]
     rw[hz]at hsp
     simp(disch:=first|(simp;done)|omega|(simp only[Zaa,Zab,Ys4];omega)|rfl) [A.lb228_0,hr,h22,h6,hlt,hky,ly,lx,p1,p3,p4,q1,q3,q4,hN,Zcz,hf]
     exact⟨_,by omega,k+1,_,_,rfl,⟨by omega,by simp,by simp,rfl,by simp[hW],hK.set (Ys6 _),by simp,by simp[ho],_,hsp⟩⟩
    ·have hz:dz (wds x) k=0:=by simp[dz,Ytn (Yv5.1 hky)]
     rw[hz]at hsp
     simp(disch:=first|(simp;done)|omega|(simp only[Zaa,Zab,Ys4];omega)|rfl) [A.lb228_0,hr,h22,h6,hlt,hky,ly,lx,p1,p3,p4,hN,Zcz,hf]
     exact⟨_,by omega,k+1,_,_,rfl,⟨by omega,by simp,by simp,rfl,by simp[hW],hK.set (Ys6 _),by simp,by simp[ho],_,hsp⟩⟩
   ·have hkx:k=(wds y).length:=by omega
    subst hkx
    simp[A.lb228_0,hr,h22,hf]
    exact⟨o,c,⟨by omega,by simp[h22],by simp[h6],rfl,by simp[hW],hK,hN,ho,d,hd⟩⟩
  ·rintro _ r ⟨H,n1,W⟩ hr ⟨rfl,o,c,hk,h22,h6,hn,hW,hK,hN,ho,d,d1,d2,d3,d4,d5⟩
   simp only at hn hW hK hN
   subst hn
   simp(disch:=first|(simp;done)|omega|(simp only[Zaa,Zab,Ys4];omega)|rfl) [hr,h6,ly,hN,Zcz]
   refine Zaf (Zfz (l:=o.set (wds y).length c) (Sl.row (e:=265) (rw:=true) (by omega) (by simp) (by simp[ho]) (by simp)) (by simp[ho];omega)) ?_
   intro v' h' n' hk' hs
   simp[Ret]
   refine⟨hW,(hK.set (Ys6 _)).trans hk',?_⟩
   rw[Yjo (by omega) d1 d2 d3 d4 d5]at hs
   exact(Nat.add_comm y x▸hs)
 ·simp(disch:=first|(simp;done)|omega|(simp only[Zaa,Zab,Ys4];omega)|rfl) [A.b228,lx,ly,hl]
  refine Zah [(6,8),(22,46)] (fun e r st=>e=.exit 0∧Yrl h N x y r st) (Yrk h N x y) (wds x).length ?_ ?_ ?_
  ·refine⟨0,List.replicate ((wds x).length+1) 0,0,by omega,⟨by omega,by simp,by simp,by simp,by simp,Keeps.refl.set (Ys6 _) |>.up (by omega),by simp[Zgi],by simp,[],by simp,by simp,by simp[val],by decide,by simp[Dg]⟩⟩
  ·rintro m r ⟨H,n1,W⟩ hr hf ⟨k,o,c,rfl,hk,h22,h6,hn,hW,hK,hN,ho,d,hd⟩
   simp only at hn hW hK hN
   subst hn
   rw[Zai]
   by_cases hlt:k<(wds x).length
   ·obtain⟨i1,o1,c1,e1,w1,p1,p2,p3,p4⟩:=hx.at (Za5 (Yta hlt))
    have p3:=(hK.get _ p2).trans p3
    obtain⟨d1,d2,d3,d4,d5⟩:=hd
    have hsp:=Yep (x:=wds x) (y:=wds y) (Yta hlt) d1 d2 d3 d4 d5 (Zdi x) (Zdi y)
    by_cases hky:k<(wds y).length
    ·obtain⟨i2,o2,c2,e2,w2,q1,q2,q3,q4⟩:=hy.at (Za5 (Yta hky))
     have q3:=(hK.get _ q2).trans q3
     have hz:dz (wds y) k=(wds y)[k]:=by simp[dz,Yta hky]
     rw[hz]at hsp
     simp(disch:=first|(simp;done)|omega|(simp only[Zaa,Zab,Ys4];omega)|rfl) [A.lb228_0,hr,h22,h6,hlt,hky,lx,ly,p1,p3,p4,q1,q3,q4,hN,Zcz,hf]
     exact⟨_,by omega,k+1,_,_,rfl,⟨by omega,by simp,by simp,rfl,by simp[hW],hK.set (Ys6 _),by simp,by simp[ho],_,hsp⟩⟩
    ·have hz:dz (wds y) k=0:=by simp[dz,Ytn (Yv5.1 hky)]
     rw[hz]at hsp
     simp(disch:=first|(simp;done)|omega|(simp only[Zaa,Zab,Ys4];omega)|rfl) [A.lb228_0,hr,h22,h6,hlt,hky,lx,ly,p1,p3,p4,hN,Zcz,hf]
     exact⟨_,by omega,k+1,_,_,rfl,⟨by omega,by simp,by simp,rfl,by simp[hW],hK.set (Ys6 _),by simp,by simp[ho],_,hsp⟩⟩
   ·have hkx:k=(wds x).length:=by omega
    subst hkx
    simp[A.lb228_0,hr,h22,hf]
    exact⟨o,c,⟨by omega,by simp[h22],by simp[h6],rfl,by simp[hW],hK,hN,ho,d,hd⟩⟩
  ·rintro _ r ⟨H,n1,W⟩ hr ⟨rfl,o,c,hk,h22,h6,hn,hW,hK,hN,ho,d,d1,d2,d3,d4,d5⟩
   simp only at hn hW hK hN
   subst hn
   simp(disch:=first|(simp;done)|omega|(simp only[Zaa,Zab,Ys4];omega)|rfl) [hr,h6,lx,hN,Zcz]
   refine Zaf (Zfz (l:=o.set (wds x).length c) (Sl.row (e:=265) (rw:=true) (by omega) (by simp) (by simp[ho]) (by simp)) (by simp[ho];omega)) ?_
   intro v' h' n' hk' hs
   simp[Ret]
   refine⟨hW,(hK.set (Ys6 _)).trans hk',?_⟩
   rw[Yjo (by omega) d1 d2 d3 d4 d5]at hs
   exact hs
set_option maxHeartbeats 2000000
noncomputable def A.w230:=A.q Tryz.f230
noncomputable def A.lb230_0:=A.ql A.w230 0 []
noncomputable def A.b230:=(fun x0=>A.qb A.w230 [x0]) A.lb230_0
def A.k230:=@A.kk 230 41 [.tmp 4] A.b230 (by kernel_rfl) rfl
def Zda{a b:Nat}(h:a≤b):(wds a).length≤(wds b).length:=by
 apply Yu0
 intro hc
 have h1:=Zk6 (b:=B) (Zdi b)
 rw[Zbm]at h1
 have h2:∀n,n≠0→B^((wds n).length-1)≤n:=by
  intro n
  induction n using Nat.strongRecOn with
  |_ n ih=>
   intro hn
   rw[Zbn hn]
   by_cases h0:n/B=0
   ·rw[h0,Zbl];simp;omega
   ·have:=ih (n/B) (Yv2 (by omega) (by decide)) h0
    have hp:0<(wds (n/B)).length:=by rw[Zbn h0];simp
    simp only[Ys4,Nat.add_sub_cancel]
    rw[show (wds (n/B)).length=((wds (n/B)).length-1)+1 by omega,Ytw]
    have h3:B^((wds (n/B)).length-1)*B≤n/B*B:=Yts B this
    have:=Nat.div_mul_le_self n B
    omega
 have ha:a≠0:=by
  rintro rfl
  rw[Zbl]at hc;simp at hc
 have h3:=h2 a ha
 have h4:B^(wds b).length≤B^((wds a).length-1):=Yt6 (by decide) (by omega)
 omega
structure Yrf (h:T O) (N x y k:Nat) (o:List Nat) (c:Nat) (r:T V) (st:St):Prop where
 hk:k≤(wds x).length
 r14:r.get 14=some (.int .i64 k)
 r6:r.get 6=some (.int .u64 c)
 n:st.n=N+1
 w:Zac N st.w=[]
 keep:Keeps h N st.h (N+1)
 row:st.h.get N=some (.cells (dg o) 265 true)
 len:o.length=(wds x).length
 ex:∃d,d.length=k∧o=d++List.replicate ((wds x).length-k) 0∧val B d+val B ((wds y).take k)=val B ((wds x).take k)+B^k*c∧c≤1∧Dg d
def Ysv(h:T O)(N x y m:Nat)(r:T V)(st:St):Prop:=∃k o c,m=(wds x).length-k∧Yrf h N x y k o c r st
def Ysw(h:T O)(N x y:Nat)(r:T V)(st:St):Prop:=∃o c,Yrf h N x y (wds x).length o c r st
def Yj9{x y o d:List Nat}{k c xk:Nat}(hx:x[k]?=some xk)(d1:d.length=k)(d2:o=d++List.replicate (x.length-k) 0)(d3:val B d+val B (y.take k)=val B (x.take k)+B^k*c)(d4:c≤1)(d5:Dg d)(gx:Dg x)(gy:Dg y):
  (d++[sb64 xk (dz y k) c]).length=k+1∧o.set k (sb64 xk (dz y k) c)=(d++[sb64 xk (dz y k) c])++List.replicate (x.length-(k+1)) 0∧val B (d++[sb64 xk (dz y k) c])+val B (y.take (k+1))=val B (x.take (k+1))+B^(k+1)*bw64 xk (dz y k) c∧bw64 xk (dz y k) c≤1∧Dg (d++[sb64 xk (dz y k) c]):=by
 have hk:k<x.length:=by
  apply Yuh;intro hc;rw[Ytn hc]at hx;cases hx
 have hxk:=gx.get hx
 have hyk:=You gy k
 have hs:sb64 xk (dz y k) c+dz y k+c=xk+B*bw64 xk (dz y k) c∧sb64 xk (dz y k) c<B∧bw64 xk (dz y k) c≤1:=by
  unfold sb64 bw64
  unfold B at*
  split<;>omega
 refine⟨by simp[d1],?_,?_,hs.2.2,?_⟩
 ·rw[d2,show x.length-k=(x.length-(k+1))+1 by omega,Zpz d1]
 ·rw[Zlz,Zb8,Zb8,d1,show dz x k=xk by simp[dz,hx],Ytw]
  have h1:=hs.1
  generalize sb64 xk (dz y k) c=s at*
  generalize bw64 xk (dz y k) c=b at*
  generalize B^k=p at*
  have:p*(s+dz y k+c)=p*(xk+B*b):=by rw[h1]
  grind
 ·intro e he
  rcases Yty.1 he with he|he
  ·exact d5 e he
  ·simp at he;subst he;exact hs.2.1
def Ynk{x y:Nat}{o d:List Nat}{c:Nat}(hl:y≤x)(d1:d.length=(wds x).length)(d2:o=d++List.replicate ((wds x).length-(wds x).length) 0)(d3:val B d+val B ((wds y).take (wds x).length)=val B ((wds x).take (wds x).length)+B^(wds x).length*c)(d4:c≤1)(d5:Dg d):Zgs o=wds (x-y):=by
 rw[d2,Nat.sub_self]
 simp only[List.replicate_zero,Yvs]
 rw[Zdj d5]
 congr 1
 rw[Ytd (Ys6 _),Ytd (Zda hl),Zbm,Zbm]at d3
 have:=Zk6 d5
 rw[d1]at this
 rcases Nat.lt_or_ge c 1 with hc|hc
 ·have:c=0:=by omega
  subst this
  simp at d3;omega
 ·have:c=1:=by omega
  subst this
  omega
def Zmr{h:T O}{N:Nat}{vx vy:V}{x y:Nat}(hx:Wn h N vx x)(hy:Wn h N vy y)(hxy:y≤x)(hxl:(wds x).length<1099511627776)(hyl:(wds y).length<1099511627776):Fn A.C 230 [vx,vy] h N (fun v' h' N'=>Wn h' N' v' (x-y)):=by
 intro w
 have lx:=hx.len
 have ly:=hy.len
 rw[Zaa]at lx ly
 rw[Zae,A.k230 (by simp)]
 simp(disch:=first|(simp;done)|omega|(simp only[Zaa,Zab,Ys4];omega)|rfl) [A.b230,lx,ly]
 refine Zah [(6,8),(14,38)] (fun e r st=>e=.exit 0∧Ysw h N x y r st) (Ysv h N x y) (wds x).length ?_ ?_ ?_
 ·refine⟨0,List.replicate (wds x).length 0,0,by omega,⟨by omega,by simp,by simp,by simp,by simp,Keeps.refl.set (Ys6 _) |>.up (by omega),by simp[Zgi],by simp,[],by simp,by simp,by simp[val],by decide,by simp[Dg]⟩⟩
 ·rintro m r ⟨H,n1,W⟩ hr hf ⟨k,o,c,rfl,hk,h22,h6,hn,hW,hK,hN,ho,d,hd⟩
  simp only at hn hW hK hN
  subst hn
  rw[Zai]
  by_cases hlt:k<(wds x).length
  ·obtain⟨i1,o1,c1,e1,w1,p1,p2,p3,p4⟩:=hx.at (Za5 (Yta hlt))
   have p3:=(hK.get _ p2).trans p3
   obtain⟨d1,d2,d3,d4,d5⟩:=hd
   have hsp:=Yj9 (x:=wds x) (y:=wds y) (Yta hlt) d1 d2 d3 d4 d5 (Zdi x) (Zdi y)
   by_cases hky:k<(wds y).length
   ·obtain⟨i2,o2,c2,e2,w2,q1,q2,q3,q4⟩:=hy.at (Za5 (Yta hky))
    have q3:=(hK.get _ q2).trans q3
    have hz:dz (wds y) k=(wds y)[k]:=by simp[dz,Yta hky]
    rw[hz]at hsp
    simp(disch:=first|(simp;done)|omega|(simp only[Zaa,Zab,Ys4];omega)|rfl) [A.lb230_0,hr,h22,h6,hlt,hky,lx,ly,p1,p3,p4,q1,q3,q4,hN,Zcz,hf]
    exact⟨_,by omega,k+1,_,_,rfl,⟨by omega,by simp,by simp,rfl,by simp[hW],hK.set (Ys6 _),by simp,by simp[ho],_,hsp⟩⟩
   ·have hz:dz (wds y) k=0:=by simp[dz,Ytn (Yv5.1 hky)]
    rw[hz]at hsp
    simp(disch:=first|(simp;done)|omega|(simp only[Zaa,Zab,Ys4];omega)|rfl) [A.lb230_0,hr,h22,h6,hlt,hky,lx,ly,p1,p3,p4,hN,Zcz,hf]
    exact⟨_,by omega,k+1,_,_,rfl,⟨by omega,by simp,by simp,rfl,by simp[hW],hK.set (Ys6 _),by simp,by simp[ho],_,hsp⟩⟩
  ·have hkx:k=(wds x).length:=by omega
   subst hkx
   simp[A.lb230_0,hr,h22,hf]
   exact⟨o,c,⟨by omega,by simp[h22],by simp[h6],rfl,by simp[hW],hK,hN,ho,d,hd⟩⟩
 ·rintro _ r ⟨H,n1,W⟩ hr ⟨rfl,o,c,hk,h22,h6,hn,hW,hK,hN,ho,d,d1,d2,d3,d4,d5⟩
  simp only at hn hW hK hN
  subst hn
  simp[hr,h6,lx,hN]
  refine Zaf (Zfz (l:=o) (Sl.row (e:=265) (rw:=true) (by omega) (by simp[hN]) (by simp[ho]) (by simp)) (by simp[ho];omega)) ?_
  intro v' h' n' hk' hs
  simp[Ret]
  refine⟨hW,hK.trans hk',?_⟩
  rw[Ynk hxy d1 d2 d3 d4 d5]at hs
  exact hs
set_option maxHeartbeats 2000000
noncomputable def A.w229:=A.q Tryz.f229
noncomputable def A.lb229_0:=A.ql A.w229 0 []
noncomputable def A.b229:=(fun x0=>A.qb A.w229 [x0]) A.lb229_0
def A.k229:=@A.kk 229 41 [.tmp 4] A.b229 (by kernel_rfl) rfl
def Zu3(x y:Int):Int:=if x<y then -1 else if y<x then 1 else 0
def Yi4{x y:Nat}(h:(wds x).length<(wds y).length):x<y:=by
 apply Yuh
 intro hc
 have:=Zda hc
 omega
def Zl0{b:Nat}{l:List Nat}{k d:Nat}(h:l[k]?=some d):val b (l.drop k)=d+b*val b (l.drop (k+1)):=by
 have hk:k<l.length:=by
  apply Yuh;intro hc;rw[Ytn hc]at h;cases h
 rw[Yvl hk]
 rw[Yta hk]at h
 simp only[Ys3]at h
 rw[h];rfl
def Zq2(b:Nat)(l:List Nat)(k:Nat)(hk:k≤l.length):val b l=val b (l.take k)+b^k*val b (l.drop k):=by
 have:=Zhn b (l.take k) (l.drop k)
 rw[Yva,Yth,Yud hk]at this
 exact this
def Yil{x y:List Nat}{k:Nat}(gx:Dg x)(hx:k≤x.length)(hy:k≤y.length)(h:val B (x.drop k)<val B (y.drop k)):val B x<val B y:=by
 rw[Zq2 B x k hx,Zq2 B y k hy]
 have h1:val B (x.take k)<B^k:=by
  have:=Zk6 (b:=B) (l:=x.take k) fun d hd=>gx d (Yuk hd)
  rwa [Yth,Yud hx]at this
 have h2:B^k*(val B (x.drop k)+1)≤B^k*val B (y.drop k):=Ytp _ h
 rw[Yvb]at h2
 omega
structure Yri (h:T O) (N x y m:Nat) (r:T V) (st:St):Prop where
 hm:m≤(wds x).length
 r5:r.get 5=some (.int .i64 ((m:Int)-1))
 n:st.n=N
 w:st.w=[]
 keep:Keeps h N st.h N
 top:(wds x).drop m=(wds y).drop m
def Zhh{h:T O}{N:Nat}{vx vy:V}{x y:Nat}(hx:Wn h N vx x)(hy:Wn h N vy y)(hxl:(wds x).length<1099511627776)(hyl:(wds y).length<1099511627776):Fn A.C 229 [vx,vy] h N (fun v' h' N'=>v'=.int .i64 (Zu3 x y)):=by
 intro w
 have lx:=hx.len
 have ly:=hy.len
 rw[Zaa]at lx ly
 rw[Zae,A.k229 (by simp)]
 by_cases hne:(wds x).length=(wds y).length
 ·have hne':((wds x).length:Int)=((wds y).length:Int):=by omega
  simp(disch:=omega) [A.b229,lx,ly,hne]
  refine Zah [(4,5),(19,40)] (fun e r st=>(e=.exit 0∧Yri h N x y 0 r st)∨(e=.ret∧r.get 4=some (.int .i64 (Zu3 x y))∧st.n=N∧st.w=[]∧Keeps h N st.h N)) (Yri h N x y) (wds x).length ?_ ?_ ?_
  ·exact⟨by omega,by simp[hne],rfl,rfl,Keeps.refl,by rw[Yub,hne,Yub]⟩
  ·rintro m r ⟨H,n1,W⟩ hr hf ⟨hm,h5,hn,hW,hK,ht⟩
   simp only at hn hW hK
   subst hn;subst hW
   rw[Zai]
   cases m with
   |zero=>
    simp[A.lb229_0,h5,hr,hf]
    exact⟨by omega,by simp[h5],rfl,rfl,hK,ht⟩
   |succ m=>
    have hmx:m<(wds x).length:=by omega
    have hmy:m<(wds y).length:=by omega
    have h5':r.get 5=some (.int .i64 (m:Int)):=by rw[h5];congr 2;omega
    have gx:=Yta hmx
    have gy:=Yta hmy
    obtain⟨i1,o1,c1,e1,w1,p1,p2,p3,p4⟩:=hx.at (Za5 gx)
    have p3:=(hK.get _ p2).trans p3
    obtain⟨i2,o2,c2,e2,w2,q1,q2,q3,q4⟩:=hy.at (Za5 gy)
    have q3:=(hK.get _ q2).trans q3
    rcases Nat.lt_trichotomy (wds x)[m] (wds y)[m]with hlt|heq|hgt
    ·have hlt2:x<y:=by
      have:=Yil (x:=wds x) (y:=wds y) (k:=m) (Zdi x) (by omega) (by omega) (by rw[Zl0 gx,Zl0 gy,ht];omega)
      rwa [Zbm,Zbm]at this
     have hne2:¬(wds x)[m]=(wds y)[m]:=by omega
     simp(disch:=first|(simp;done)|omega|(simp only[Zaa,Zab,Ys4];omega)|rfl) [A.lb229_0,h5',hr,hf,lx,ly,p1,p2,p3,p4,q1,q2,q3,q4,Zad,hne2,hlt]
     exact⟨by simp[Zu3,hlt2],hK⟩
    ·have ht':(wds x).drop m=(wds y).drop m:=by rw[Yvl hmx,Yvl hmy,ht,heq]
     simp(disch:=first|(simp;done)|omega|(simp only[Zaa,Zab,Ys4];omega)|rfl) [A.lb229_0,h5',hr,hf,lx,ly,p1,p2,p3,p4,q1,q2,q3,q4,Zad,heq]
     exact⟨m,by omega,⟨by omega,by simp,rfl,rfl,hK,ht'⟩⟩
    ·have hlt2:y<x:=by
      have:=Yil (x:=wds y) (y:=wds x) (k:=m) (Zdi y) (by omega) (by omega) (by rw[Zl0 gx,Zl0 gy,ht];omega)
      rwa [Zbm,Zbm]at this
     have hne2:¬(wds x)[m]=(wds y)[m]:=by omega
     have hlt:¬(wds x)[m]<(wds y)[m]:=by omega
     have hlt3:¬x<y:=by omega
     simp(disch:=first|(simp;done)|omega|(simp only[Zaa,Zab,Ys4];omega)|rfl) [A.lb229_0,h5',hr,hf,lx,ly,p1,p2,p3,p4,q1,q2,q3,q4,Zad,hne2,hlt]
     exact⟨by simp[Zu3,hlt2,hlt3],hK⟩
  ·rintro e r ⟨H,n1,W⟩ hr (⟨rfl,hm,h5,hn,hW,hK,ht⟩|⟨rfl,h4,hn,hW,hK⟩)
   ·simp only at hn hW hK
    subst hn;subst hW
    simp only[Yu3]at ht
    have:x=y:=by rw[←Zbm x,ht,Zbm]
    subst this
    simp[hr,Ret]
    exact⟨hK,by simp[Zu3]⟩
   ·simp only at hn hW hK
    subst hn;subst hW
    simp[h4,Ret]
    exact hK
 ·have hne':¬((wds x).length:Int)=((wds y).length:Int):=by omega
  by_cases hlt:(wds x).length<(wds y).length
  ·have:=Yi4 hlt
   simp[A.b229,lx,ly,hne,hlt,Zad,Ret]
   exact⟨Keeps.refl,by simp[Zu3,this]⟩
  ·have h1:=Yi4 (x:=y) (y:=x) (by omega)
   have h2:¬x<y:=by omega
   simp[A.b229,lx,ly,hne,hlt,Zad,Ret]
   exact⟨Keeps.refl,by simp[Zu3,h1,h2]⟩
set_option maxHeartbeats 4000000
noncomputable def A.w227:=A.q Tryz.f227
noncomputable def A.lb227_0:=A.ql A.w227 1 []
noncomputable def A.lb227_1:=(fun x0=>A.ql A.w227 0 [x0]) A.lb227_0
noncomputable def A.b227:=(fun x0=>A.qb A.w227 [x0]) A.lb227_1
def A.k227:=@A.kk 227 80 [.tmp 4] A.b227 (by kernel_rfl) rfl
def Zml{b:Nat}:∀{l:List Nat} {k old v:Nat},l[k]?=some old→val b (l.set k v)+b^k*old=val b l+b^k*v
 |[],k,old,v,h=>by simp at h
 |d::l,0,old,v,h=>by simp at h;subst h;simp[val];omega
 |d::l,k+1,old,v,h=>by
  have ih:=Zml (b:=b) (l:=l) (k:=k) (old:=old) (v:=v) (by simpa using h)
  simp only[List.set_cons_succ,val,Ytw]
  generalize val b (l.set k v)=p at*
  generalize val b l=q at*
  generalize b^k=z at*
  have:b*(p+z*old)=b*(q+z*v):=by rw[ih]
  grind
def Dg.set{l:List Nat}(h:Dg l){k v:Nat}(hv:v<B):Dg (l.set k v):=by
 intro d hd
 rcases Ywo hd with hd|hd
 ·exact h d hd
 ·subst hd;exact hv
def mulNew(x y o c:Nat):Nat:=lo64 (lo64 (lo64 (x*y)+o)+c)
def mulCar(x y o c:Nat):Nat:=addu (addu (hi64 (x*y)) (hi64 (lo64 (x*y)+o))) (hi64 (lo64 (lo64 (x*y)+o)+c))
def Ygi{x y o c:Nat}(hx:x<B)(hy:y<B)(ho:o<B)(hc:c<B):mulNew x y o c+B*mulCar x y o c=x*y+o+c∧mulNew x y o c<B∧mulCar x y o c<B:=by
 have:x*y≤18446744073709551615*18446744073709551615:=Yvf (by unfold B at*;omega) (by unfold B at*;omega)
 unfold mulNew mulCar lo64 hi64 addu
 unfold B at*
 generalize x*y=p at*
 omega
structure Yrg (h:T O) (N x y i j:Nat) (o:List Nat) (c xi:Nat) (r:T V) (st:St):Prop where
 hj:j≤(wds y).length
 r29:r.get 29=some (.int .i64 j)
 r8:r.get 8=some (.int .u64 c)
 n:st.n=N+1
 w:Zac N st.w=[]
 keep:Keeps h N st.h (N+1)
 row:st.h.get N=some (.cells (dg o) 265 true)
 len:o.length=(wds x).length+(wds y).length
 dg:Dg o
 zero:∀t,i+(wds y).length≤t→t<o.length→o[t]?=some 0
 lc:c<B
 ex:val B o+B^(i+j)*c=val B ((wds x).take i)*y+B^i*(xi*val B ((wds y).take j))
def Ysx(h:T O)(N x y i xi m:Nat)(r:T V)(st:St):Prop:=∃j o c,m=(wds y).length-j∧Yrg h N x y i j o c xi r st
def Ysy(h:T O)(N x y i xi:Nat)(r:T V)(st:St):Prop:=∃o c,Yrg h N x y i (wds y).length o c xi r st
structure Ypa (h:T O) (N x y i:Nat) (o:List Nat) (r:T V) (st:St):Prop where
 hi:i≤(wds x).length
 r22:r.get 22=some (.int .i64 i)
 n:st.n=N+1
 w:Zac N st.w=[]
 keep:Keeps h N st.h (N+1)
 row:st.h.get N=some (.cells (Go.Mx.dg o) 265 true)
 len:o.length=(wds x).length+(wds y).length
 dg:Dg o
 zero:∀t,i+(wds y).length≤t→t<o.length→o[t]?=some 0
 ex:val B o=val B ((wds x).take i)*y
def Yq9(h:T O)(N x y m:Nat)(r:T V)(st:St):Prop:=∃i o,m=(wds x).length-i∧Ypa h N x y i o r st
def Yra(h:T O)(N x y:Nat)(r:T V)(st:St):Prop:=∃o,Ypa h N x y (wds x).length o r st
def Zub{h:T O}{N:Nat}{vx vy:V}{x y:Nat}(hx:Wn h N vx x)(hy:Wn h N vy y)(hxl:(wds x).length<1099511627776)(hyl:(wds y).length<1099511627776):Fn A.C 227 [vx,vy] h N (fun v' h' N'=>Wn h' N' v' (x*y)):=by
 intro w
 have lx:=hx.len
 have ly:=hy.len
 rw[Zaa]at lx ly
 rw[Zae,A.k227 (by simp)]
 simp(disch:=first|(simp;done)|omega|(simp only[Zaa,Zab,Ys4];omega)|rfl) [A.b227,lx,ly]
 refine Zah [(6,13),(22,77)] (fun e r st=>e=.exit 0∧Yra h N x y r st) (Yq9 h N x y) (wds x).length ?_ ?_ ?_
 ·refine⟨0,List.replicate ((wds x).length+(wds y).length) 0,by omega,⟨by omega,by simp,by simp,by simp,Keeps.refl.set (Ys6 _) |>.up (by omega),?_,by simp,?_,?_,by simp[val,Zq1]⟩⟩
  ·simp[Zgi]
  ·intro d hd
   rw[Ywi]at hd
   rw[hd.2];decide
  ·intro t _ ht
   simp at ht
   simp[ht]
 ·rintro m r ⟨H,n1,W⟩ hr hf ⟨i,o,rfl,hi,h22,hn,hW,hK,hN,ho,hd,hz,he⟩
  simp only at hn hW hK hN
  subst hn
  rw[Zai]
  by_cases hlt:i<(wds x).length
  ·obtain⟨i1,o1,c1,e1,w1,p1,p2,p3,p4⟩:=hx.at (Za5 (Yta hlt))
   have p3:=(hK.get _ p2).trans p3
   have gx:=Yta hlt
   generalize (wds x)[i]=xi at*
   simp[A.lb227_1,hr,h22,hlt,lx,ly,p1,p3,p4]
   refine Zah [(8,13),(29,69)] (fun e r st=>e=.exit 2∧Ysy h N x y i xi r st) (Ysx h N x y i xi) (wds y).length ?_ ?_ ?_
   ·exact⟨0,o,0,by omega,⟨by omega,by simp,by simp,rfl,hW,hK,hN,ho,hd,hz,by decide,by simp[val,he]⟩⟩
   ·rintro m r2 ⟨H2,n2,W2⟩ hr2 hf2 ⟨j,o2,c,rfl,hj,h29,h8,hn2,hW2,hK2,hN2,ho2,hd2,hz2,hc2,he2⟩
    simp only at hn2 hW2 hK2 hN2
    subst hn2
    rw[Zai]
    have hi:xi<B:=(Zdi x).get gx
    by_cases hlt2:j<(wds y).length
    ·obtain⟨i2,o3,c3,e3,w3,q1,q2,q3,q4⟩:=hy.at (Za5 (Yta hlt2))
     have q3:=(hK2.get _ q2).trans q3
     have gy:=Yta hlt2
     generalize (wds y)[j]=yj at*
     have hyj:yj<B:=(Zdi y).get gy
     have go:=Yta (l:=o2) (i:=i+j) (by omega)
     generalize o2[i+j]'(by omega)=ov at*
     simp[A.lb227_0,hr,hr2,h29,h8,hlt2,lx,ly,q1,q3,q4,hf2]
     refine Zaf (Zju hi hyj) ?_
     rintro _ _ _ hk3 ⟨rfl,rfl,rfl⟩
     simp(disch:=first|(simp;done)|omega|(simp only[Zaa,Zab,Ys4];omega)|rfl) [-getElem?_pos,hr,hr2,h29,h8,hlt2,lx,ly,q1,q3,q4,hf2,hN2,Za5 go,Zcz]
     obtain⟨m1,m2,m3⟩:=Ygi hi hyj (hd2.get go) hc2
     refine⟨_,by omega,j+1,o2.set (i+j) (mulNew xi yj ov c),mulCar xi yj ov c,rfl,⟨by omega,by simp,?_,rfl,by simp[hW2],hK2.set (Ys6 _),?_,by simp[ho2],hd2.set m2,?_,m3,?_⟩⟩
     ·simp[mulCar]
     ·simp[mulNew]
     ·intro t t1 t2
      rw[Ytf (by omega)]
      exact hz2 t t1 (by simpa using t2)
     ·have v1:=Zml (b:=B) (v:=mulNew xi yj ov c) go
      rw[Zby gy]
      have e1:B^(i+(j+1))=B^(i+j)*B:=by rw[show i+(j+1)=(i+j)+1 by omega,Ytw]
      have e2:B^i*(xi*(B^j*yj))=B^(i+j)*(xi*yj):=by rw[Yuj];grind
      have e3:B^(i+j)*(mulNew xi yj ov c+B*mulCar xi yj ov c)=B^(i+j)*(xi*yj+ov+c):=by rw[m1]
      rw[e1]
      generalize val B (List.set o2 (i+j) (mulNew xi yj ov c))=z1 at*
      generalize val B o2=z2 at*
      generalize mulNew xi yj ov c=z3 at*
      generalize mulCar xi yj ov c=z4 at*
      generalize val B (List.take j (wds y))=z5 at*
      generalize B^(i+j)=z6 at*
      grind
    ·have:j=(wds y).length:=by omega
     subst this
     simp[A.lb227_0,hr,hr2,h29,h8,hf2]
     exact⟨o2,c,⟨by omega,by simp[h29],by simp[h8],rfl,hW2,hK2,hN2,ho2,hd2,hz2,hc2,he2⟩⟩
   ·rintro e r2 ⟨H2,n2,W2⟩ hr2 ⟨rfl,o2,c,hj,h29,h8,hn2,hW2,hK2,hN2,ho2,hd2,hz2,hc2,he2⟩
    simp only at hn2 hW2 hK2 hN2
    subst hn2
    have hf2:=hf.inner (D':=[(8,13),(29,69)]) rfl (by simp) hr2
    simp(disch:=first|(simp;done)|omega|(simp only[Zaa,Zab,Ys4];omega)|rfl) [hr,hr2,h22,h8,ly,hN2,Zcz,hf2]
    have hz0:o2[i+(wds y).length]?=some 0:=hz2 _ (Ys6 _) (by omega)
    refine⟨_,by omega,i+1,o2.set (i+(wds y).length) c,rfl,⟨by omega,by simp,rfl,by simp[hW2],hK2.set (Ys6 _),by simp,by simp[ho2],hd2.set hc2,?_,?_⟩⟩
    ·intro t t1 t2
     rw[Ytf (by omega)]
     exact hz2 t (by omega) (by simpa using t2)
    ·have v1:=Zml (b:=B) (v:=c) hz0
     rw[Ytd (Ys6 _),Zbm]at he2
     rw[Zby gx]
     simp only[Nat.mul_zero,Yue]at v1
     rw[v1,he2]
     grind
  ·have:i=(wds x).length:=by omega
   subst this
   simp[A.lb227_1,hr,h22,hf]
   exact⟨o,⟨by omega,by simp[h22],rfl,hW,hK,hN,ho,hd,hz,he⟩⟩
 ·rintro _ r ⟨H,n1,W⟩ hr ⟨rfl,o,hi,h22,hn,hW,hK,hN,ho,hd,hz,he⟩
  simp only at hn hW hK hN
  subst hn
  simp[hr,hN]
  refine Zaf (Zfz (l:=o) (Sl.row (e:=265) (rw:=true) (by omega) (by simp[hN]) (by simp[ho]) (by simp)) (by simp[ho];omega)) ?_
  intro v' h' n' hk' hs
  simp[Ret]
  refine⟨hW,hK.trans hk',?_⟩
  rw[Ytd (Ys6 _),Zbm]at he
  rw[Zdj hd,he]at hs
  exact hs
variable {n:Nat}
set_option maxHeartbeats 2000000
def Yof:List UInt8:=[0,1,2,2,3,3,3,3,4,4,4,4,4,4,4,4,5,5,5,5,5,5,5,5,5,5,5,5,5,5,5,5,6,6,6,6,6,6,6,6,6,6,6,6,6,6,6,6,6,6,6,6,6,6,6,6,6,6,6,6,6,6,6,6,7,7,7,7,7,7,7,7,7,7,7,7,7,7,7,7,7,7,7,7,7,7,7,7,7,7,7,7,7,7,7,7,7,7,7,7,7,7,7,7,7,7,7,7,7,7,7,7,7,7,7,7,7,7,7,7,7,7,7,7,7,7,7,7,8,8,8,8,8,8,8,8,8,8,8,8,8,8,8,8,8,8,8,8,8,8,8,8,8,8,8,8,8,8,8,8,8,8,8,8,8,8,8,8,8,8,8,8,8,8,8,8,8,8,8,8,8,8,8,8,8,8,8,8,8,8,8,8,8,8,8,8,8,8,8,8,8,8,8,8,8,8,8,8,8,8,8,8,8,8,8,8,8,8,8,8,8,8,8,8,8,8,8,8,8,8,8,8,8,8,8,8,8,8,8,8,8,8,8,8,8,8,8,8,8,8,8,8,8,8,8,8]
def A.b232:Zav:=sr [mc 2 0]
 (.seq (sr [mv 3 0,ge 4 (.bin .geq (.node []) false (tq 3) (.const (.int .u64 4294967296)))]
 (cd 4
 (sr [mv 5 0,ge 6 (.bin .shr (.node []) false (tq 5) (.const (.int .u64 32))),mv 0 6]
 (.reg [mc 2 32]))
 (.skip)))
 (.seq (sr [mv 7 0,ge 8 (.bin .geq (.node []) false (tq 7) (.const (.int .u64 65536)))]
 (cd 8
 (sr [mv 9 0,ge 10 (.bin .shr (.node []) false (tq 9) (.const (.int .u64 16))),mv 0 10]
 (.reg [mv 11 2,bc 12 .add 11 16,mv 2 12]))
 (.skip)))
 (.seq (sr [mv 13 0,ge 14 (.bin .geq (.node []) false (tq 13) (.const (.int .u64 256)))]
 (cd 14
 (sr [mv 15 0,ge 16 (.bin .shr (.node []) false (tq 15) (.const (.int .u64 8))),mv 0 16]
 (.reg [mv 17 2,bc 18 .add 17 8,mv 2 18]))
 (.skip)))
 (sr [mv 19 2,mv 20 0,ge 21 (.convInt .u8 (tq 20)),ge 22 (.idxStr (.const (.str Yof)) (tq 21)),ge 23 (.convInt .i64 (tq 22)),bi 24 .add 19 23,mv 2 24]
 (.ret)))))
def A.k232:=@A.kk 232 25 [.tmp 2] A.b232 (by kernel_rfl) rfl
noncomputable def A.b236:=A.q Tryz.f236
def A.k236:=@A.kk 236 6 [.tmp 2] A.b236 (by kernel_rfl) rfl
def blen(n:Nat):Nat:=if n=0 then 0 else Nat.log2 n+1
def Zqt(n:Nat):n<2^blen n:=by
 unfold blen
 split
 ·simp[*]
 ·exact Nat.lt_log2_self
def Zk3(h:n≠0):2^(blen n-1)≤n:=by
 unfold blen
 rw[Ys5 h]
 exact Nat.log2_self_le h
def Yms{k:Nat}(h1:2^k≤n)(h2:n<2^(k+1)):blen n=k+1:=by
 have hn:n≠0:=by have:=Yuo k;omega
 unfold blen
 rw[Ys5 hn]
 congr 1
 have h3:Nat.log2 n<k+1:=(Nat.log2_lt hn).2 h2
 have h4:k≤Nat.log2 n:=(Nat.le_log2 hn).2 h1
 omega
def Zc3{k:Nat}(h:2^k≤n):blen (shr64 n k)+k=blen n:=by
 unfold shr64
 have h0:n/2^k≠0:=by
  have:=Nat.div_pos h (Yuo k);omega
 have h1:=Zqt (n/2^k)
 have h2:=Zk3 h0
 have hp:0<blen (n/2^k):=by unfold blen;rw[Ys5 h0];omega
 have e:blen (n/2^k)+k=(blen (n/2^k)-1+k)+1:=by omega
 rw[e]
 symm
 apply Yms
 ·rw[Yuj]
  exact Yu5 (Yts _ h2) (Nat.div_mul_le_self n _)
 ·rw[show blen (n/2^k)-1+k+1=blen (n/2^k)+k by omega,Yuj]
  exact(Ytx (Yuo k)).1 h1
def Yi5:∀{n:Nat},n<256→Yof[n]?=some (UInt8.ofNat (blen n)):=by decide+kernel
def Zqu:∀{n:Nat},n<256→blen n<9:=by decide+kernel
def Zgv(h:n<256):u8I (UInt8.ofNat (blen n))=(blen n:Int):=by
 have:=Zqu h
 unfold u8I
 simp;omega
def Zqe{h:T O}{N:Nat}{x:Nat}(hx:x<18446744073709551616):Fn A.C 232 [.int .u64 x] h N (fun v' h' N'=>h'=h∧N'=N∧v'=.int .i64 (blen x:Nat)):=by
 intro w
 rw[Zae,A.k232 (by simp)]
 by_cases h0:4294967296≤x
 ·have h0':(4294967296:Int)≤((x:Nat):Int):=by omega
  by_cases h1:65536≤shr64 (x) 32
  ·have h1':(65536:Int)≤((shr64 (x) 32:Nat):Int):=by omega
   by_cases h2:256≤shr64 (shr64 (x) 32) 16
   ·have h2':(256:Int)≤((shr64 (shr64 (x) 32) 16:Nat):Int):=by omega
    have hb:shr64 (shr64 (shr64 (x) 32) 16) 8<256:=by (try simp only[shr64]at*);omega
    have ht:=Yi5 hb
    have hv:u8I (UInt8.ofNat (blen (shr64 (shr64 (shr64 (x) 32) 16) 8)))=(blen (shr64 (shr64 (shr64 (x) 32) 16) 8):Int):=Zgv hb
    have hl:=Zqu hb
    simp(disch:=omega) [A.b232,h0',h1',h2',Zd7,ht,hv,Ret]
    have:=Zc3 (k:=32) (n:=x) h0
    have:=Zc3 (k:=16) (n:=shr64 (x) 32) h1
    have:=Zc3 (k:=8) (n:=shr64 (shr64 (x) 32) 16) h2
    first|exact Keeps.refl|exact And.intro Keeps.refl (by omega)
   ·have h2':¬(256:Int)≤((shr64 (shr64 (x) 32) 16:Nat):Int):=by omega
    have hb:shr64 (shr64 (x) 32) 16<256:=by (try simp only[shr64]at*);omega
    have ht:=Yi5 hb
    have hv:u8I (UInt8.ofNat (blen (shr64 (shr64 (x) 32) 16)))=(blen (shr64 (shr64 (x) 32) 16):Int):=Zgv hb
    have hl:=Zqu hb
    simp(disch:=omega) [A.b232,h0',h1',h2',Zd7,ht,hv,Ret]
    have:=Zc3 (k:=32) (n:=x) h0
    have:=Zc3 (k:=16) (n:=shr64 (x) 32) h1
    first|exact Keeps.refl|exact And.intro Keeps.refl (by omega)
  ·have h1':¬(65536:Int)≤((shr64 (x) 32:Nat):Int):=by omega
   by_cases h2:256≤shr64 (x) 32
   ·have h2':(256:Int)≤((shr64 (x) 32:Nat):Int):=by omega
    have hb:shr64 (shr64 (x) 32) 8<256:=by (try simp only[shr64]at*);omega
    have ht:=Yi5 hb
    have hv:u8I (UInt8.ofNat (blen (shr64 (shr64 (x) 32) 8)))=(blen (shr64 (shr64 (x) 32) 8):Int):=Zgv hb
    have hl:=Zqu hb
    simp(disch:=omega) [A.b232,h0',h1',h2',Zd7,ht,hv,Ret]
    have:=Zc3 (k:=32) (n:=x) h0
    have:=Zc3 (k:=8) (n:=shr64 (x) 32) h2
    first|exact Keeps.refl|exact And.intro Keeps.refl (by omega)
   ·have h2':¬(256:Int)≤((shr64 (x) 32:Nat):Int):=by omega
    have hb:shr64 (x) 32<256:=by (try simp only[shr64]at*);omega
    have ht:=Yi5 hb
    have hv:u8I (UInt8.ofNat (blen (shr64 (x) 32)))=(blen (shr64 (x) 32):Int):=Zgv hb
    have hl:=Zqu hb
    simp(disch:=omega) [A.b232,h0',h1',h2',Zd7,ht,hv,Ret]
    have:=Zc3 (k:=32) (n:=x) h0
    first|exact Keeps.refl|exact And.intro Keeps.refl (by omega)
 ·have h0':¬(4294967296:Int)≤((x:Nat):Int):=by omega
  by_cases h1:65536≤x
  ·have h1':(65536:Int)≤((x:Nat):Int):=by omega
   by_cases h2:256≤shr64 (x) 16
   ·have h2':(256:Int)≤((shr64 (x) 16:Nat):Int):=by omega
    have hb:shr64 (shr64 (x) 16) 8<256:=by (try simp only[shr64]at*);omega
    have ht:=Yi5 hb
    have hv:u8I (UInt8.ofNat (blen (shr64 (shr64 (x) 16) 8)))=(blen (shr64 (shr64 (x) 16) 8):Int):=Zgv hb
    have hl:=Zqu hb
    simp(disch:=omega) [A.b232,h0',h1',h2',Zd7,ht,hv,Ret]
    have:=Zc3 (k:=16) (n:=x) h1
    have:=Zc3 (k:=8) (n:=shr64 (x) 16) h2
    first|exact Keeps.refl|exact And.intro Keeps.refl (by omega)
   ·have h2':¬(256:Int)≤((shr64 (x) 16:Nat):Int):=by omega
    have hb:shr64 (x) 16<256:=by (try simp only[shr64]at*);omega
    have ht:=Yi5 hb
    have hv:u8I (UInt8.ofNat (blen (shr64 (x) 16)))=(blen (shr64 (x) 16):Int):=Zgv hb
    have hl:=Zqu hb
    simp(disch:=omega) [A.b232,h0',h1',h2',Zd7,ht,hv,Ret]
    have:=Zc3 (k:=16) (n:=x) h1
    first|exact Keeps.refl|exact And.intro Keeps.refl (by omega)
  ·have h1':¬(65536:Int)≤((x:Nat):Int):=by omega
   by_cases h2:256≤x
   ·have h2':(256:Int)≤((x:Nat):Int):=by omega
    have hb:shr64 (x) 8<256:=by (try simp only[shr64]at*);omega
    have ht:=Yi5 hb
    have hv:u8I (UInt8.ofNat (blen (shr64 (x) 8)))=(blen (shr64 (x) 8):Int):=Zgv hb
    have hl:=Zqu hb
    simp(disch:=omega) [A.b232,h0',h1',h2',Zd7,ht,hv,Ret]
    have:=Zc3 (k:=8) (n:=x) h2
    first|exact Keeps.refl|exact And.intro Keeps.refl (by omega)
   ·have h2':¬(256:Int)≤((x:Nat):Int):=by omega
    have hb:x<256:=by (try simp only[shr64]at*);omega
    have ht:=Yi5 hb
    have hv:u8I (UInt8.ofNat (blen (x)))=(blen (x):Int):=Zgv hb
    have hl:=Zqu hb
    simp(disch:=omega) [A.b232,h0',h1',h2',Zd7,ht,hv,Ret]
    first|exact Keeps.refl|exact And.intro Keeps.refl (by omega)
def Ycr{h:T O}{N:Nat}{x:Nat}(hx:x<18446744073709551616):Fn A.C 236 [.int .u64 x] h N (fun v' h' N'=>h'=h∧N'=N∧v'=.int .i64 ((64-blen x:Nat))):=by
 intro w
 have hl:blen x≤64:=by
  by_cases h0:x=0
  ·subst h0;decide
  ·apply Yu0
   intro hc
   have:=Zk3 h0
   have:2^64≤2^(blen x-1):=Yt6 (by decide) (by omega)
   omega
 rw[Zae,A.k236 (by simp)]
 simp[A.b236]
 refine Zaf (Zqe hx) ?_
 rintro _ _ _ hk ⟨rfl,rfl,rfl⟩
 simp(disch:=omega) [Ret]
 exact⟨hk,by omega⟩
end Go.Mx
