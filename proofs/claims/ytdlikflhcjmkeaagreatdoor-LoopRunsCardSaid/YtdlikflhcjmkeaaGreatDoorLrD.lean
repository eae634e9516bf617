/-lensletref06-/
import Derived.Test.YtdlikflhcjmkeaaGreatDoorLrC
set_option linter.all false
set_option maxHeartbeats 4000000
namespace Go.Mx
noncomputable section
open Go Go.Proofs
set_option maxRecDepth 1000000
def A.w37:=A.q Tryz.f37
def A.lb37_0:=A.ql A.w37 0 []
def A.b37:=(fun x0=>A.qb A.w37 [x0]) A.lb37_0
def A.k37:=@A.kk 37 75 [.tmp 4,.tmp 5] A.b37 (by kernel_rfl) rfl
def Ywq{z:Nat}{e:TypeId}{N0:Nat}{h:T O}{N:Nat}{v u:V}{l:List (List V)}{x:List V}{bytes:Nat}{w:List Nat}(s:Own z e N0 h N v l)(hN:N0≤N)(hz:0<z)(hx:x.length=z)(hu:Zbc ⟨h,N,w⟩ z u=some (1,x))(hb:2*(l.length+1)*bytes≤281474976710656):
  ∃v' h' w',Zc7 ⟨h,N,w⟩ z bytes e v u=some (v',⟨h',N+1,w'⟩)∧Zhk v'=[N]∧(∀i∈w',i∈Zhk v∨i∈w)∧Upd (fun i=>i∈Zhk v) h N h' (N+1)∧Own z e N0 h' (N+1) v' (l++[x]):=by
 obtain⟨v',h',w',f1,f2,f3,f4,f5⟩:=Zbw s hN hz hx hu hb
 refine⟨v',h',w',f1,Yw1 s hu f1,Yxi s hu f1,⟨Ytb _,fun j hj hd=>?_⟩,f5⟩
 rcases f4 j with h1|h1|⟨o,n,c,q,h1⟩
 ·exact h1
 ·omega
 ·exact absurd (by rw[h1];simp[Zhk]) hd
def Ywz{h:T O}{N:Nat}{v:V}{g l p:Rat}{D kc kd K:Nat}{d:List Rat}(hd:Tx h N v d)(qg:Qb kc g)(ql:Qb kc l)(qp:Qb kc p)(qd:∀q∈d,Qb kd q)(hkc:kc≤4000)(hD:D≤6)(hl:d.length<1000)(hK:(3*kc+3)*d.length+kd*(d.length+1)+2≤K)(hK2:K≤10000000)(hkd:kd≤10000000):Fn A.C 37 [.agg [.str (Zaq g),.str (Zaq l),.str (Zaq p),.int .i64 D],v] h N (fun x h' n'=>∃a b,x=.tup [a,b]∧TxT h' n' a (Ywo g l p D d)∧TxT h' n' b (Yw5 g l p D d)):=by
 intro w
 have lv:=hd.len
 try rw[Zfc]at lv
 have kB:Keeps h N (h.set N (.cells [.str (Zaq g),.str (Zaq l),.str (Zaq p),.int .i64 D] 49 true)) (N+1):=Keeps.refl.new _
 have b0:(h.set N (.cells [.str (Zaq g),.str (Zaq l),.str (Zaq p),.int .i64 D] 49 true)).get N=some (.cells [.str (Zaq g),.str (Zaq l),.str (Zaq p),.int .i64 D] 49 true):=by simp
 rw[Zab,A.k37 (by simp)]
 simp(disch:=first|(simp;done)|omega|rfl) [-getElem?_pos,A.b37]
 generalize h.set N (.cells [.str (Zaq g),.str (Zaq l),.str (Zaq p),.int .i64 D] 49 true)=hB at*
 have hl6:d.length<1000:=hl
 refine Zaj [(6,72)] (fun e r st=>e=.exit 0∧Zac N st.w=[]∧Keeps h N st.h st.n∧∃vu,r.get 7=some vu∧∃ve,r.get 6=some ve∧TxT st.h st.n ve (Ywo g l p D d)∧TxT st.h st.n vu (Yw5 g l p D d)) (fun m r st=>Zac N st.w=[]∧Keeps h N st.h st.n∧N<st.n∧st.h.get N=some (.cells [.str (Zaq g),.str (Zaq l),.str (Zaq p),.int .i64 D] 49 true)∧∃t,t+m=d.length∧r.get 9=some (.int .i64 t)∧r.get 8=some (.str (Zaq (Ywh g l p D d t).2.2))∧∃vu,r.get 7=some vu∧∃ve,r.get 6=some ve∧Own 1 30 (N+1) st.h st.n vu ((tx (Ywh g l p D d t).2.1).map fun y=>[y])∧Own 1 30 (N+1) st.h st.n ve ((tx (Ywh g l p D d t).1).map fun y=>[y])∧∀i∈Zhk ve,i∉Zhk vu) d.length ?_ ?_ ?_
 ·exact⟨by simp,kB,by show N<N+1;omega,b0,0,by omega,by simp,by simp[Ywh,Yhh],.nilslice,by simp,.nilslice,by simp,by simpa[Ywh,tx,strs]using Own.nil,by simpa[Ywh,tx,strs]using Own.nil,by simp[Zhk]⟩
 ·rintro m r ⟨H,n1,W⟩ hr hf ⟨hW,hK',hn1,m0,t,ht,h9,h8,vu,h7,ve,h6,ou1,oe1,dj⟩
  simp only at hW hK' hn1 m0 ou1 oe1
  rw[Zai]
  cases m with
  |zero=>
   obtain rfl:t=d.length:=by omega
   simp(disch:=first|(simp;done)|omega|rfl) [-getElem?_pos,A.lb37_0,hr,hf,h9,h7,h6,lv,hW,hK']
   exact⟨Ylf oe1,Ylf ou1⟩
  |succ m=>
   have hlt:t<d.length:=by omega
   have hlt':(t:Int)<(d.length:Int):=by omega
   have leK:=hK'.le
   have hru:=ou1.lt
   have hre:=oe1.lt
   have rl:=@Ywi g l p D d t
   have kU:Keeps H n1 (H.set n1 (.cells [.str (Zaq (Ywh g l p D d t).2.2)] 30 true)) (n1+1):=Keeps.refl.new _
   have gu:(H.set n1 (.cells [.str (Zaq (Ywh g l p D d t).2.2)] 30 true)).get n1=some (.cells [.str (Zaq (Ywh g l p D d t).2.2)] 30 true):=by simp
   have su:∀w,Zbc ⟨H.set n1 (.cells [.str (Zaq (Ywh g l p D d t).2.2)] 30 true),n1+1,w⟩ 1 (.slice n1 0 1 (some 1) 1)=some (1,[.str (Zaq (Ywh g l p D d t).2.2)]):=fun w=>by simp[Zbc,St.row,slc]
   obtain⟨vu',h3,w3,j1,ru,wr3,U3,ou3⟩:=Ywq (x:=[.str (Zaq (Ywh g l p D d t).2.2)]) (u:=.slice n1 0 1 (some 1) 1) (bytes:=16) (w:=W) (ou1.keep kU) (by omega) (by decide) rfl (su _) (by simp[Zfc,rl.2];omega)
   have g3:∀i,i<n1→i∉Zhk vu→h3.get i=H.get i:=fun i h1 h2=>by rw[U3.get i (by omega) h2,kU.get i (by omega)]
   have K3:Keeps h N h3 (n1+1+1):=⟨by omega,fun i hi=>by rw[g3 i (by omega) (fun hc=>by have:=hru _ hc;omega),hK'.get i hi]⟩
   obtain⟨i0,o0,c0,e0,rw0,b1,b2,b3,b4⟩:=(hd.keep K3).at (Zks (Zce (p:=d) (i:=t) hlt))
   have rq:=Ywn (D:=D) qg ql qp qd (k:=t) (by omega)
   have rqN:=rq.1.mono hK
   have qdt:=qd _ (Yqn (Zce (p:=d) (i:=t) hlt))
   have hl6:d.length<1000:=hl
   simp(disch:=first|(simp;done)|omega|rfl) [-getElem?_pos, -Zac,A.lb37_0,hr,hf,h9,h8,h7,h6,lv,hlt,hlt',splice,j1,b1,b2,b3,b4]
   refine Zaa (Zjh qdt rqN (by have:=Zly qdt;have:=Zly rqN;omega) (by have:=Zly qdt;have:=Zly rqN;omega) (by have:=Zly qdt;have:=Zly rqN;omega)) ?_
   rintro _ h4 n4 k4 rfl
   have le4:=k4.le
   have oe3:=(oe1.keep kU).upd U3 dj
   have kV:Keeps h4 n4 (h4.set n4 (.cells [.str (Zaq (pg d t-(Ywh g l p D d t).2.2))] 30 true)) (n4+1):=Keeps.refl.new _
   have k4V:=k4.trans kV
   have sv:∀w,Zbc ⟨h4.set n4 (.cells [.str (Zaq (pg d t-(Ywh g l p D d t).2.2))] 30 true),n4+1,w⟩ 1 (.slice n4 0 1 (some 1) 1)=some (1,[.str (Zaq (pg d t-(Ywh g l p D d t).2.2))]):=fun w=>by simp[Zbc,St.row,slc]
   obtain⟨ve',h5,w5,i1,re,wr5,U5,oe5⟩:=Ywq (x:=[.str (Zaq (pg d t-(Ywh g l p D d t).2.2))]) (u:=.slice n4 0 1 (some 1) 1) (bytes:=16) (w:=w3) (oe3.keep k4V) (by omega) (by decide) rfl (sv _) (by simp[Zfc,rl.1];omega)
   obtain⟨es,hes⟩:∃es,es=(Ywh g l p D d t).1++[pg d t-(Ywh g l p D d t).2.2]:=⟨_,rfl⟩
   have esl:es.length=t+1:=by rw[hes];simp[rl.1]
   have e1:(Ywh g l p D d (t+1)).1=es:=by rw[hes];rfl
   have e2:(Ywh g l p D d (t+1)).2.1=(Ywh g l p D d t).2.1++[(Ywh g l p D d t).2.2]:=rfl
   have oe9:Own 1 30 (N+1) h5 (n4+1+1) ve' ((tx es).map fun y=>[y]):=by rw[hes];simpa[tx,strs]using oe5
   have ou9:Own 1 30 (N+1) h5 (n4+1+1) vu' ((tx (Ywh g l p D d (t+1)).2.1).map fun y=>[y]):=by
    rw[e2]
    have:=((ou3.keep k4V).upd U5 (fun i hi hc=>by rw[ru]at hi;simp at hi;have:=hre _ hc;omega))
    simpa[tx,strs]using this
   have K9:Keeps h N h5 (n4+1+1):=⟨by omega,fun i hi=>by rw[U5.get i (by omega) (fun hc=>by have:=hre _ hc;omega),k4V.get i (by omega),K3.get i hi]⟩
   have s0:h5.get N=some (.cells [.str (Zaq g),.str (Zaq l),.str (Zaq p),.int .i64 D] 49 true):=by rw[U5.get N (by omega) (fun hc=>by have:=hre _ hc;omega),k4V.get N (by omega),g3 N (by omega) (fun hc=>by have:=hru _ hc;omega)];exact m0
   have djn:∀i∈Zhk ve',i∉Zhk vu':=fun i hi hc=>by rw[re]at hi;rw[ru]at hc;simp at hi hc;omega
   have lN:N<n4+1+1:=by omega
   have qe:∀q∈es,Qb (kd+K+1) q:=fun q hq=>by
    rw[hes]at hq
    rcases Yry.1 hq with hq|hq
    ·exact((rq.2 q hq).mono hK).mono (by omega)
    ·simp at hq
     rw[hq]
     exact qdt.sub rqN
   have q00:Qb (kd+K+1) 0:=(Qb.int (z:=0) (k:=1) (by decide) (by decide)).mono (by omega)
   have fs9:Sl h5 (n4+1+1) ve' (tx es):=(Ylf oe9).1
   have lve:=fs9.len
   rw[Zfc,esl]at lve
   have fW:Zac N w5=[]:=Zo5 fun i hi=>by
    rcases wr5 i hi with q1|q1
    ·have:=hre _ q1;omega
    ·rcases wr3 i q1 with q2|q2
     ·have:=hru _ q2;omega
     ·exact Yge hW i q2
   have K2':kd+K+1≤20000001:=by omega
   clear oe5 oe3 U5 U3 wr5 wr3 kU su sv kV gu
   by_cases cD:D≤t
   ·have d1:(D:Int)≤(t:Int):=by omega
    have d2:(t:Int)-(D:Int)<((t+1:Nat):Int):=by omega
    have d3:((t:Int)-(D:Int)).toNat=t-D:=by omega
    have d0:(0:Int)≤(t:Int)-(D:Int):=by omega
    obtain⟨i1',o1',x1',y1',w1',c1,c2,c3,c4⟩:=fs9.at (Zks (Zce (p:=es) (i:=t-D) (by omega)))
    by_cases cE:D+1≤t
    ·have f1:(1:Int)≤(t:Int)-(D:Int):=by omega
     have f2:(t:Int)-(D:Int)-1<((t+1:Nat):Int):=by omega
     have f3:((t:Int)-(D:Int)-1).toNat=t-(D+1):=by omega
     have f0:(0:Int)≤(t:Int)-(D:Int)-1:=by omega
     obtain⟨i2',o2',x2',y2',w2',p1,p2,p3,p4⟩:=fs9.at (Zks (Zce (p:=es) (i:=t-(D+1)) (by omega)))
     rw[c1]at p1
     obtain⟨rfl,rfl⟩:i1'=i2'∧o1'=o2':=by simpa using p1
     rw[c3]at p3
     obtain⟨rfl,rfl,rfl⟩:x1'=x2'∧y1'=y2'∧w1'=w2':=by simpa using p3
     simp(disch:=first|(simp;done)|omega|rfl) [-getElem?_pos, -Zac,hr,hf,splice,i1,h9,h8,s0,lN,Zah,slc,d0,d1,d2,d3,f0,f1,f2,f3,lve,c1,c2,c3,c4,p4]
     have eL1:Ywj es D t=pg es (t-D):=Yqi cD
     have eL2:Ywj es (D+1) t=pg es (t-(D+1)):=Yqi cE
     have bL1:Qb (kd+K+1) (pg es (t-D)):=qe _ (Yqn (Zce (by omega)))
     have bL2:Qb (kd+K+1) (pg es (t-(D+1))):=qe _ (Yqn (Zce (by omega)))
     have m2:=fun (h:T O) (N:Nat)=>Zz8 (h:=h) (N:=N) qg bL1 (by omega) (by omega)
     have m3:=fun (h:T O) (N:Nat)=>Zjh (h:=h) (N:=N) bL1 bL2 (by have:=Zly bL1;have:=Zly bL2;omega) (by have:=Zly bL1;have:=Zly bL2;omega) (by have:=Zly bL1;have:=Zly bL2;omega)
     refine Zaa (Zz8 ql rqN (by omega) (by omega)) ?_
     rintro _ h11 n11 k11 rfl
     have x1:=(k11.get N (by omega)).trans s0
     have y1:N<n11:=by have:=k11.le;omega
     simp(disch:=first|(simp;done)|omega|rfl) [-getElem?_pos, -Zac,hr,hf,x1,y1,Zah,slc]
     refine Zaa (m2 h11 n11) ?_
     rintro _ h12 n12 k12 rfl
     have x2:=(k12.get N (by omega)).trans x1
     have y2:N<n12:=by have:=k12.le;omega
     simp(disch:=first|(simp;done)|omega|rfl) [-getElem?_pos, -Zac,hr,hf,x2,y2,Zah,slc]
     refine Zaa (m3 h12 n12) ?_
     rintro _ h13 n13 k13 rfl
     simp(disch:=first|(simp;done)|omega|rfl) [-getElem?_pos, -Zac]
     refine Zaa (Zz8 qp (bL1.sub bL2) (by omega) (by omega)) ?_
     rintro _ h14 n14 k14 rfl
     simp(disch:=first|(simp;done)|omega|rfl) [-getElem?_pos, -Zac]
     refine Zaa (Zpq (qg.mul bL1) (qp.mul (bL1.sub bL2)) (by omega) (by omega)) ?_
     rintro _ h15 n15 k15 rfl
     simp(disch:=first|(simp;done)|omega|rfl) [-getElem?_pos, -Zac]
     refine Zaa (Zpq (ql.mul rqN) ((qg.mul bL1).add (qp.mul (bL1.sub bL2))) (by omega) (by omega)) ?_
     rintro _ h16 n16 k16 rfl
     have kz:=((((k11.trans k12).trans k13).trans k14).trans k15).trans k16
     have lz:=kz.le
     simp(disch:=first|(simp;done)|omega|rfl) [-getElem?_pos, -Zac,hr,hf,h9]
     have e3:(Ywh g l p D d (t+1)).2.2=l*(Ywh g l p D d t).2.2+(g*pg es (t-D)+p*(pg es (t-D)-pg es (t-(D+1)))):=by
      have e0':(Ywh g l p D d (t+1)).2.2=l*(Ywh g l p D d t).2.2+(g*Ywj es D t+p*(Ywj es D t-Ywj es (D+1) t)):=by rw[hes];rfl
      rw[e0',eL1,eL2]
     exact⟨m,by omega,fW,K9.trans kz,by omega,(kz.get N (by omega)).trans s0,t+1,by omega,by simp,by rw[e3],ou9.keep kz,by rw[e1];exact oe9.keep kz,djn⟩
    ·have f1:¬(1:Int)≤(t:Int)-(D:Int):=by omega
     have f0:¬(0:Int)≤(t:Int)-(D:Int)-1:=by omega
     have e0':o1'+(t-D)=o1':=by omega
     have c4':=c4
     rw[e0']at c4'
     simp(disch:=first|(simp;done)|omega|rfl) [-getElem?_pos, -Zac,hr,hf,splice,i1,h9,h8,s0,lN,Zah,slc,d0,d1,d2,d3,f0,f1,lve,c1,c2,c3,c4,c4']
     have eL1:Ywj es D t=pg es 0:=(Yqi cD).trans (by rw[show t-D=0 by omega])
     have eL2:Ywj es (D+1) t=0:=Yqe cE
     have bL1:Qb (kd+K+1) (pg es 0):=qe _ (Yqn (Zce (p:=es) (i:=0) (by omega)))
     have bL2:Qb (kd+K+1) (0):=q00
     have m2:=fun (h:T O) (N:Nat)=>Zz8 (h:=h) (N:=N) qg bL1 (by omega) (by omega)
     have m3:=fun (h:T O) (N:Nat)=>Zjh (h:=h) (N:=N) bL1 bL2 (by have:=Zly bL1;have:=Zly bL2;omega) (by have:=Zly bL1;have:=Zly bL2;omega) (by have:=Zly bL1;have:=Zly bL2;omega)
     simp only[Yhh]at m3
     refine Zaa (Zz8 ql rqN (by omega) (by omega)) ?_
     rintro _ h11 n11 k11 rfl
     have x1:=(k11.get N (by omega)).trans s0
     have y1:N<n11:=by have:=k11.le;omega
     simp(disch:=first|(simp;done)|omega|rfl) [-getElem?_pos, -Zac,hr,hf,x1,y1,Zah,slc]
     refine Zaa (m2 h11 n11) ?_
     rintro _ h12 n12 k12 rfl
     have x2:=(k12.get N (by omega)).trans x1
     have y2:N<n12:=by have:=k12.le;omega
     simp(disch:=first|(simp;done)|omega|rfl) [-getElem?_pos, -Zac,hr,hf,x2,y2,Zah,slc]
     refine Zaa (m3 h12 n12) ?_
     rintro _ h13 n13 k13 rfl
     simp(disch:=first|(simp;done)|omega|rfl) [-getElem?_pos, -Zac]
     refine Zaa (Zz8 qp (bL1.sub bL2) (by omega) (by omega)) ?_
     rintro _ h14 n14 k14 rfl
     simp(disch:=first|(simp;done)|omega|rfl) [-getElem?_pos, -Zac]
     refine Zaa (Zpq (qg.mul bL1) (qp.mul (bL1.sub bL2)) (by omega) (by omega)) ?_
     rintro _ h15 n15 k15 rfl
     simp(disch:=first|(simp;done)|omega|rfl) [-getElem?_pos, -Zac]
     refine Zaa (Zpq (ql.mul rqN) ((qg.mul bL1).add (qp.mul (bL1.sub bL2))) (by omega) (by omega)) ?_
     rintro _ h16 n16 k16 rfl
     have kz:=((((k11.trans k12).trans k13).trans k14).trans k15).trans k16
     have lz:=kz.le
     simp(disch:=first|(simp;done)|omega|rfl) [-getElem?_pos, -Zac,hr,hf,h9]
     have e3:(Ywh g l p D d (t+1)).2.2=l*(Ywh g l p D d t).2.2+(g*pg es 0+p*(pg es 0-0)):=by
      have e0':(Ywh g l p D d (t+1)).2.2=l*(Ywh g l p D d t).2.2+(g*Ywj es D t+p*(Ywj es D t-Ywj es (D+1) t)):=by rw[hes];rfl
      rw[e0',eL1,eL2]
     exact⟨m,by omega,fW,K9.trans kz,by omega,(kz.get N (by omega)).trans s0,t+1,by omega,by simp,by rw[e3],ou9.keep kz,by rw[e1];exact oe9.keep kz,djn⟩
   ·have d1:¬(D:Int)≤(t:Int):=by omega
    have d0:¬(0:Int)≤(t:Int)-(D:Int):=by omega
    have cE:¬D+1≤t:=by omega
    have f1:¬(1:Int)≤(t:Int)-(D:Int):=by omega
    have f0:¬(0:Int)≤(t:Int)-(D:Int)-1:=by omega
    obtain⟨z0,hz0⟩:∃z0:Rat,z0=0:=⟨0,rfl⟩
    have tz:Zaq z0=[48]:=by rw[hz0];exact Yhh
    have qz:Qb (kd+K+1) z0:=by rw[hz0];exact q00
    simp(disch:=first|(simp;done)|omega|rfl) [-getElem?_pos, -Zac,hr,hf,splice,i1,h9,h8,s0,lN,Zah,slc,d0,d1,f0,f1]
    have eL1:Ywj es D t=z0:=(Yqe cD).trans hz0.symm
    have eL2:Ywj es (D+1) t=z0:=(Yqe cE).trans hz0.symm
    have bL1:Qb (kd+K+1) (z0):=qz
    have bL2:Qb (kd+K+1) (z0):=qz
    have m2:=fun (h:T O) (N:Nat)=>Zz8 (h:=h) (N:=N) qg bL1 (by omega) (by omega)
    have m3:=fun (h:T O) (N:Nat)=>Zjh (h:=h) (N:=N) bL1 bL2 (by have:=Zly bL1;have:=Zly bL2;omega) (by have:=Zly bL1;have:=Zly bL2;omega) (by have:=Zly bL1;have:=Zly bL2;omega)
    simp only[tz]at m2 m3
    refine Zaa (Zz8 ql rqN (by omega) (by omega)) ?_
    rintro _ h11 n11 k11 rfl
    have x1:=(k11.get N (by omega)).trans s0
    have y1:N<n11:=by have:=k11.le;omega
    simp(disch:=first|(simp;done)|omega|rfl) [-getElem?_pos, -Zac,hr,hf,x1,y1,Zah,slc]
    refine Zaa (m2 h11 n11) ?_
    rintro _ h12 n12 k12 rfl
    have x2:=(k12.get N (by omega)).trans x1
    have y2:N<n12:=by have:=k12.le;omega
    simp(disch:=first|(simp;done)|omega|rfl) [-getElem?_pos, -Zac,hr,hf,x2,y2,Zah,slc]
    refine Zaa (m3 h12 n12) ?_
    rintro _ h13 n13 k13 rfl
    simp(disch:=first|(simp;done)|omega|rfl) [-getElem?_pos, -Zac]
    refine Zaa (Zz8 qp (bL1.sub bL2) (by omega) (by omega)) ?_
    rintro _ h14 n14 k14 rfl
    simp(disch:=first|(simp;done)|omega|rfl) [-getElem?_pos, -Zac]
    refine Zaa (Zpq (qg.mul bL1) (qp.mul (bL1.sub bL2)) (by omega) (by omega)) ?_
    rintro _ h15 n15 k15 rfl
    simp(disch:=first|(simp;done)|omega|rfl) [-getElem?_pos, -Zac]
    refine Zaa (Zpq (ql.mul rqN) ((qg.mul bL1).add (qp.mul (bL1.sub bL2))) (by omega) (by omega)) ?_
    rintro _ h16 n16 k16 rfl
    have kz:=((((k11.trans k12).trans k13).trans k14).trans k15).trans k16
    have lz:=kz.le
    simp(disch:=first|(simp;done)|omega|rfl) [-getElem?_pos, -Zac,hr,hf,h9]
    have e3:(Ywh g l p D d (t+1)).2.2=l*(Ywh g l p D d t).2.2+(g*z0+p*(z0-z0)):=by
     have e0':(Ywh g l p D d (t+1)).2.2=l*(Ywh g l p D d t).2.2+(g*Ywj es D t+p*(Ywj es D t-Ywj es (D+1) t)):=by rw[hes];rfl
     rw[e0',eL1,eL2]
    exact⟨m,by omega,fW,K9.trans kz,by omega,(kz.get N (by omega)).trans s0,t+1,by omega,by simp,by rw[e3],ou9.keep kz,by rw[e1];exact oe9.keep kz,djn⟩
 ·rintro _ r ⟨H,n1,W⟩ hr ⟨rfl,hW,hK',vu,h7,ve,h6,fe,fu⟩
  simp only at hW hK' fe fu
  simp(disch:=first|(simp;done)|omega|rfl) [-getElem?_pos,hr,h6,h7,hW,hK',Ret]
  exact⟨ve,vu,⟨rfl,rfl⟩,fe,fu⟩
variable {K N:Nat} {h:T O} {l:List Rat} {v:V}
def A.w80:=A.q Tryz.f80
def A.lb80_0:=A.ql A.w80 0 []
def A.b80:=(fun x0=>A.qb A.w80 [x0]) A.lb80_0
def A.k80:=@A.kk 80 22 [.cell 4 (some 4)] A.b80 (by kernel_rfl) rfl
def A.b171:=A.q Tryz.f171
def A.k171:=@A.kk 171 6 [.cell 2 (some 4)] A.b171 (by kernel_rfl) rfl
def A.b108:=A.q Tryz.f108
def A.k108:=@A.kk 108 15 [.cell 4 (some 4)] A.b108 (by kernel_rfl) rfl
def A.w109:=A.q Tryz.f109
def A.lb109_0:=A.ql A.w109 0 []
def A.b109:=(fun x0=>A.qb A.w109 [x0]) A.lb109_0
def A.k109:=@A.kk 109 25 [.tmp 4] A.b109 (by kernel_rfl) rfl
def A.b38:=A.q Tryz.f38
def A.k38:=@A.kk 38 16 [.tmp 4] A.b38 (by kernel_rfl) rfl
def A.b105:=A.q Tryz.f105
def A.k105:=@A.kk 105 11 [.tmp 2] A.b105 (by kernel_rfl) rfl
def A.b36:=A.q Tryz.f36
def A.k36:=@A.kk 36 8 [.tmp 2] A.b36 (by kernel_rfl) rfl
def sqN(l:List Rat):Nat→Rat
 |0=>0
 |k+1=>sqN l k+pg l k*pg l k
def sqQ(l:List Rat):Rat:=sqN l l.length
def Ywu{l:List Rat}{K:Nat}(hl:∀y∈l,Qb K y):∀{k:Nat},k≤l.length→Qb (1+k*(K+K+1)) (sqN l k)
 |0,_=>(Qb.int (z:=0) (k:=1) (by decide) (by decide)).mono (by omega)
 |k+1,h=>by
  have ih:=Ywu hl (k:=k) (by omega)
  have hq:=hl _ (Yqn (Zce (p:=l) (i:=k) (by omega)))
  rw[sqN,Yrf]
  exact(ih.add (hq.mul hq)).mono (by omega)
def Yxd{c:List V}{q:Rat}(hc:FcC h N c q)(bq:Qb K q)(hK:K≤400000000):FnV A.C (.func 171 [] []) [.agg c] h N (fun v h' n'=>Fc h' n' v (q*q)):=by
 intro w
 have hcc:∀c:List V,(V.agg c).cells=c:=fun _=>rfl
 obtain⟨c1,c2⟩:=hc.len
 have kB:Keeps h N ((h.set N (.cells c 102 true)).set (N+1) (.cells [.int .i64 0,.nilslice,.int .i64 0,.nilslice] 102 true)) (N+1+1):=(Keeps.refl.new _).new _
 have gB:((h.set N (.cells c 102 true)).set (N+1) (.cells [.int .i64 0,.nilslice,.int .i64 0,.nilslice] 102 true)).get (N+1)=some (.cells [.int .i64 0,.nilslice,.int .i64 0,.nilslice] 102 true):=by simp
 have sc:=Yuu c1
 have wq:=bq.wls
 rw[Zab,A.k171 (by simp)]
 simp(disch:=first|(simp;done)|omega|rfl) [-getElem?_pos, -V.cells, -V.one,A.b171,hcc,c1,c2,Zah,sc]
 generalize (h.set N (.cells c 102 true)).set (N+1) (.cells [.int .i64 0,.nilslice,.int .i64 0,.nilslice] 102 true)=H at*
 refine Zaa (Ybh (hc.keep kB).up (hc.keep kB).up (by omega) (by omega) (by omega) (by omega)) ?_
 rintro _ h2 n2 k2 hm
 obtain⟨c3,rfl,f3⟩:=hm.c
 obtain⟨e1,e2⟩:=f3.len
 have g2:=(k2.get (N+1) (by omega)).trans gB
 have le2:=k2.le
 have l2:N+1<n2:=by omega
 have e4:=Yuq (d:=zF) e1 rfl
 have e0:zF=[V.int .i64 0,.nilslice,.int .i64 0,.nilslice]:=rfl
 rw[e0]at e4
 have s3:=Yuu e1
 simp(disch:=first|(simp;done)|omega|rfl) [-getElem?_pos, -V.cells, -V.one,hcc,e1,e2,Zal,g2,l2,e4,s3,Zah,Ret]
 exact⟨(kB.trans k2).set (by omega),(f3.setNU g2 (by intro x hx m;simp at hx;rcases hx with rfl|rfl|rfl|rfl<;>simp) (by simp[e1])).up⟩
def Yxr(hs:FrS h N v l)(bl:∀y∈l,Qb K y)(hl:l.length<1000)(hK:K≤100000):Fn A.C 80 [v,.func 171 [] []] h N (fun x h' n'=>Fc h' n' x (sqQ l)):=by
 intro w
 have hcc:∀c:List V,(V.agg c).cells=c:=fun _=>rfl
 have e0:zF=[V.int .i64 0,.nilslice,.int .i64 0,.nilslice]:=rfl
 have lv:=hs.len
 have kB:Keeps h N (h.set N (.cells [.int .i64 0,.nilslice,.int .i64 0,.nilslice] 102 true)) (N+1):=Keeps.refl.new _
 have gR:(h.set N (.cells [.int .i64 0,.nilslice,.int .i64 0,.nilslice] 102 true)).get N=some (.cells [.int .i64 0,.nilslice,.int .i64 0,.nilslice] 102 true):=by simp
 rw[Zab,A.k80 (by simp)]
 simp(disch:=first|(simp;done)|omega|rfl) [-getElem?_pos, -V.cells, -V.one,A.b80]
 generalize h.set N (.cells [.int .i64 0,.nilslice,.int .i64 0,.nilslice] 102 true)=H0 at*
 refine Zaa (Ybl (z:=0) (by decide) (by decide)) ?_
 rintro _ h1 n1 k1 hz
 obtain⟨c0,rfl,f0⟩:=hz.c
 obtain⟨g1,g2⟩:=f0.len
 have e4:=Yuq (d:=zF) g1 rfl
 rw[e0]at e4
 have le1:=k1.le
 have kD:Keeps h1 n1 ((h1.set n1 (.cells [.int .i64 0,.nilslice,.int .i64 0,.nilslice] 102 true)).set n1 (.cells c0 102 true)) (n1+1):=(Keeps.refl.new _).set (Yqg _)
 have gS:((h1.set n1 (.cells [.int .i64 0,.nilslice,.int .i64 0,.nilslice] 102 true)).set n1 (.cells c0 102 true)).get n1=some (.cells c0 102 true):=by simp
 simp(disch:=first|(simp;done)|omega|rfl) [-getElem?_pos, -V.cells, -V.one,hcc,g1,g2,Zal,e4,lv]
 generalize (h1.set n1 (.cells [.int .i64 0,.nilslice,.int .i64 0,.nilslice] 102 true)).set n1 (.cells c0 102 true)=H2 at*
 have gR2:=(kD.get N (by omega)).trans ((k1.get N (by omega)).trans gR)
 refine Zaj [(7,7),(11,20)] (fun e r st=>e=.exit 0∧Zac N st.w=[]∧Keeps h N st.h st.n∧n1<st.n∧st.h.get N=some (.cells [.int .i64 0,.nilslice,.int .i64 0,.nilslice] 102 true)∧∃cs,st.h.get n1=some (.cells cs 102 true)∧FcC st.h st.n cs (sqQ l)) (fun m r st=>Zac N st.w=[]∧Keeps h N st.h st.n∧n1<st.n∧st.h.get N=some (.cells [.int .i64 0,.nilslice,.int .i64 0,.nilslice] 102 true)∧∃t,t+m=l.length∧r.get 11=some (.int .i64 t)∧∃cs,st.h.get n1=some (.cells cs 102 true)∧FcC st.h st.n cs (sqN l t)) l.length ?_ ?_ ?_
 ·exact⟨Zo5 fun i hi=>by simp at hi;omega,(kB.trans k1).trans kD,by show n1<n1+1;omega,gR2,0,by omega,by simp,c0,gS,f0.keep kD⟩
 ·rintro m r ⟨H,n2,W⟩ hr hf ⟨hW,hK',hn,gN,t,ht,h11,cs,gs,fs⟩
  simp only at hW hK' hn gN gs fs
  rw[Zai]
  cases m with
  |zero=>
   obtain rfl:t=l.length:=by omega
   simp(disch:=first|(simp;done)|omega|rfl) [-getElem?_pos,A.lb80_0,hr,hf,h11,hW,hK',hn,gN,gs]
   exact fs
  |succ m=>
   have hlt:t<l.length:=by omega
   have hlt':(t:Int)<(l.length:Int):=by omega
   obtain⟨i0,o0,y0,z0,q0,cx,b1,b2,b3,b4,b5⟩:=(hs.keep hK').at (Zce (p:=l) (i:=t) hlt)
   obtain⟨f1,f2⟩:=b5.len
   obtain⟨u1,u2⟩:=fs.len
   have ex:=Yuq (d:=zF) f1 rfl
   rw[e0]at ex
   have sx:=Yuu f1
   have ss:=Yuu u1
   have kX:Keeps H n2 ((H.set n2 (.cells [.int .i64 0,.nilslice,.int .i64 0,.nilslice] 102 true)).set n2 (.cells cx 102 true)) (n2+1):=(Keeps.refl.new _).set (Yqg _)
   have gs1:=(kX.get n1 hn).trans gs
   have gX:((H.set n2 (.cells [.int .i64 0,.nilslice,.int .i64 0,.nilslice] 102 true)).set n2 (.cells cx 102 true)).get n2=some (.cells cx 102 true):=by simp
   have gN1:=(kX.get N (by omega)).trans gN
   have ln1:n1<n2+1:=by omega
   have ne1:¬n1=n2:=by omega
   have bq:=bl _ (Yqn (Zce (p:=l) (i:=t) hlt))
   simp(disch:=first|(simp;done)|omega|rfl) [-getElem?_pos, -V.cells, -V.one,A.lb80_0,hr,hf,h11,hlt,hlt',lv,b1,b2,b3,b4,hcc,f1,f2,Zal,ex,Zah,gs,ne1,ln1,ss,sx]
   generalize (H.set n2 (.cells [.int .i64 0,.nilslice,.int .i64 0,.nilslice] 102 true)).set n2 (.cells cx 102 true)=HX at*
   refine Yhy (Yxd (b5.keep kX) bq (by omega)) ?_
   rintro v3 h3 n3 k3 hv3
   have bs:=Ywu bl (k:=t) (by omega)
   have ht1:t*(K+K+1)≤1000*200001:=Yr1 (by omega) (by omega)
   have ws:=bs.wls
   have wq:=(bq.mul bq).wls
   simp(disch:=first|(simp;done)|omega|rfl) [-getElem?_pos, -V.cells, -V.one]
   refine Zaa (Zpf ((fs.keep kX).keep k3).up hv3 (by omega) (by omega) (by omega) (by omega)) ?_
   rintro _ h4 n4 k4 hm
   obtain⟨c4,rfl,f4⟩:=hm.c
   obtain⟨p1,p2⟩:=f4.len
   have kk:=k3.trans k4
   have lek:=kk.le
   have gs4:=(kk.get n1 (by omega)).trans gs1
   have l4:n1<n4:=by omega
   have e5:=Yuq (d:=cs) p1 u1
   have l5:4≤cs.length:=by omega
   have nuS:=fs.noU
   simp(disch:=first|(simp;done)|omega|rfl) [-getElem?_pos, -V.cells, -V.one,hr,hf,h11,hcc,p1,p2,Zal,gs4,l4,e5,l5,Zam.chk]
   exact⟨m,by omega,by rw[Yqe (show ¬n1<N by omega),Yqe (show ¬n2<N by omega)];exact hW,((hK'.trans kX).trans kk).set (by omega),by rw[Yqe (by omega)];exact(kk.get N (by omega)).trans gN1,t+1,by omega,by simp,f4.setNU gs4 nuS (by omega)⟩
 ·rintro _ r ⟨H,n2,W⟩ hr ⟨rfl,hW,hK',hn,gN,cs,gs,fs⟩
  simp only at hW hK' hn gN gs fs
  obtain⟨u1,u2⟩:=fs.len
  have e5:=Yuq (d:=zF) u1 rfl
  rw[e0]at e5
  have ss:=Yuu u1
  have lN:N<n2:=by omega
  simp(disch:=first|(simp;done)|omega|rfl) [-getElem?_pos, -V.cells, -V.one,hr,gs,hn,Zah,ss,hcc,u1,u2,Zal,gN,lN,e5,Ret]
  exact⟨hW,hK'.set (Yqg _),(fs.setNU gN (by intro x hx m;simp at hx;rcases hx with rfl|rfl|rfl|rfl<;>simp) (by simp[u1])).up⟩
def Yxv{g l p:Rat}{D kc kd:Nat}{d:List Rat}(hd:FrT h N v d)(qg:Qb kc g)(ql:Qb kc l)(qp:Qb kc p)(qd:∀q∈d,Qb kd q)(hkc:kc≤4000)(hD:D≤6)(hl:d.length<1000)(hK:(3*kc+3)*d.length+kd*(d.length+1)+2≤K)(hK2:K≤100000)(hkd:kd≤10000000):Fn A.C 108 [.agg [.str (Zaq g),.str (Zaq l),.str (Zaq p),.int .i64 D],v] h N (fun x h' n'=>Fc h' n' x (sqQ (Ywo g l p D d))):=by
 intro w
 have hcc:∀c:List V,(V.agg c).cells=c:=fun _=>rfl
 have e0:zF=[V.int .i64 0,.nilslice,.int .i64 0,.nilslice]:=rfl
 have kB:Keeps h N ((h.set N (.cells [.str (Zaq g),.str (Zaq l),.str (Zaq p),.int .i64 D] 48 true)).set (N+1) (.cells [.int .i64 0,.nilslice,.int .i64 0,.nilslice] 102 true)) (N+1+1):=(Keeps.refl.new _).new _
 have gR:((h.set N (.cells [.str (Zaq g),.str (Zaq l),.str (Zaq p),.int .i64 D] 48 true)).set (N+1) (.cells [.int .i64 0,.nilslice,.int .i64 0,.nilslice] 102 true)).get (N+1)=some (.cells [.int .i64 0,.nilslice,.int .i64 0,.nilslice] 102 true):=by simp
 rw[Zab,A.k108 (by simp)]
 simp(disch:=first|(simp;done)|omega|rfl) [-getElem?_pos,A.b108,Zah,slc]
 generalize (h.set N (.cells [.str (Zaq g),.str (Zaq l),.str (Zaq p),.int .i64 D] 48 true)).set (N+1) (.cells [.int .i64 0,.nilslice,.int .i64 0,.nilslice] 102 true)=HB at*
 refine Zaa (Yw0 (hd.keep kB) qg ql qp qd hkc hD hl hK (by omega) hkd) ?_
 rintro _ h2 n2 k2 ⟨a,b,rfl,fa,_⟩
 have le2:=k2.le
 have rl:=(@Ywi g l p D d d.length).1
 have rq:=Ywn (D:=D) qg ql qp qd (k:=d.length) (Yqg _)
 simp(disch:=first|(simp;done)|omega|rfl) [-getElem?_pos,]
 refine Zaa (Yxr (K:=K) fa.1 (fun y hy=>(rq.2 y hy).mono hK) (by unfold Ywo;rw[rl];exact hl) hK2) ?_
 rintro _ h3 n3 k3 hx
 obtain⟨c,rfl,fc⟩:=hx.c
 obtain⟨u1,u2⟩:=fc.len
 have kk:=k2.trans k3
 have lek:=kk.le
 have gR3:=(kk.get (N+1) (by omega)).trans gR
 have lR:N+1<n3:=by omega
 have e5:=Yuq (d:=zF) u1 rfl
 rw[e0]at e5
 have ss:=Yuu u1
 simp(disch:=first|(simp;done)|omega|rfl) [-getElem?_pos, -V.cells, -V.one,hcc,u1,u2,Zal,gR3,lR,e5,ss,Zah,Ret]
 exact⟨(kB.trans kk).set (by omega),(fc.setNU gR3 (by intro x hx m;simp at hx;rcases hx with rfl|rfl|rfl|rfl<;>simp) (by simp[u1])).up⟩
def Yxs{u:V}(hu:Tx h N u l)(bl:∀y∈l,Qb K y)(hl:l.length<1000)(hK:K≤100000):Fn A.C 109 [u,u] h N (fun y _ _=>y=.str (Zaq (sqQ l))):=by
 intro w
 have lu:=hu.len
 try rw[Zfc]at lu
 rw[Zab,A.k109 (by simp)]
 simp(disch:=first|(simp;done)|omega|rfl) [-getElem?_pos,A.b109]
 refine Zaj [(5,23)] (fun e r st=>e=.exit 0∧Zac N st.w=[]∧Keeps h N st.h st.n∧r.get 5=some (.str (Zaq (sqQ l)))) (fun m r st=>Zac N st.w=[]∧Keeps h N st.h st.n∧∃t,t+m=l.length∧r.get 6=some (.int .i64 t)∧r.get 5=some (.str (Zaq (sqN l t)))) l.length ?_ ?_ ?_
 ·exact⟨by simp,Keeps.refl,0,by omega,by simp,by simp[sqN,Yhh]⟩
 ·rintro m r ⟨H,n6,W⟩ hr hf ⟨hW,hK',t,ht,h6,h5⟩
  simp only at hW hK'
  rw[Zai]
  cases m with
  |zero=>
   obtain rfl:t=l.length:=by omega
   simp(disch:=first|(simp;done)|omega|rfl) [-getElem?_pos,A.lb109_0,hr,hf,h6,h5,lu,hW,hK']
   rfl
  |succ m=>
   have hlt:t<l.length:=by omega
   have hlt':(t:Int)<(l.length:Int):=by omega
   obtain⟨i,o,cc,e,rw,q1,q2,q3,q4⟩:=(hu.keep hK').at (Zks (Zce (p:=l) (i:=t) hlt))
   have bq:=bl _ (Yqn (Zce (p:=l) (i:=t) hlt))
   have bs:=Ywu bl (k:=t) (by omega)
   have ht1:t*(K+K+1)≤1000*200001:=Yr1 (by omega) (by omega)
   simp(disch:=first|(simp;done)|omega|rfl) [-getElem?_pos,A.lb109_0,hr,hf,h6,h5,lu,hlt,hlt',q1,q2,q3,q4]
   refine Zaa (Zz8 bq bq (by omega) (by omega)) ?_
   rintro _ h3 n3 k3 rfl
   simp(disch:=first|(simp;done)|omega|rfl) [-getElem?_pos,]
   refine Zaa (Zpq bs (bq.mul bq) (by omega) (by omega)) ?_
   rintro _ h4 n4 k4 rfl
   simp(disch:=first|(simp;done)|omega|rfl) [-getElem?_pos,hr,hf,h6]
   exact⟨m,by omega,by simpa using hW,(hK'.trans k3).trans k4,t+1,by omega,by simp,rfl⟩
 ·rintro _ r ⟨H,n6,W⟩ hr ⟨rfl,hW,hK',h5⟩
  simp only at hW hK'
  simp(disch:=first|(simp;done)|omega|rfl) [-getElem?_pos,hr,h5,hW,hK',Ret]
def Yxt{g l p:Rat}{D kc kd:Nat}{d:List Rat}(hd:Tx h N v d)(qg:Qb kc g)(ql:Qb kc l)(qp:Qb kc p)(qd:∀q∈d,Qb kd q)(hkc:kc≤4000)(hD:D≤6)(hl:d.length<1000)(hK:(3*kc+3)*d.length+kd*(d.length+1)+2≤K)(hK2:K≤100000)(hkd:kd≤10000000):Fn A.C 38 [.agg [.str (Zaq g),.str (Zaq l),.str (Zaq p),.int .i64 D],v] h N (fun y _ _=>y=.str (Zaq (sqQ (Ywo g l p D d)))):=by
 intro w
 have kB:Keeps h N (h.set N (.cells [.str (Zaq g),.str (Zaq l),.str (Zaq p),.int .i64 D] 49 true)) (N+1):=Keeps.refl.new _
 rw[Zab,A.k38 (by simp)]
 simp(disch:=first|(simp;done)|omega|rfl) [-getElem?_pos,A.b38,Zah,slc]
 generalize h.set N (.cells [.str (Zaq g),.str (Zaq l),.str (Zaq p),.int .i64 D] 49 true)=HB at*
 refine Zaa (Ywz (hd.keep kB) qg ql qp qd hkc hD hl hK (by omega) hkd) ?_
 rintro _ h2 n2 k2 ⟨a,b,rfl,fa,_⟩
 have rl:=(@Ywi g l p D d d.length).1
 have rq:=Ywn (D:=D) qg ql qp qd (k:=d.length) (Yqg _)
 simp(disch:=first|(simp;done)|omega|rfl) [-getElem?_pos,]
 refine Zaa (Yxs (K:=K) fa.1 (fun y hy=>(rq.2 y hy).mono hK) (by unfold Ywo;rw[rl];exact hl) hK2) ?_
 rintro _ h3 n3 k3 rfl
 simp(disch:=first|(simp;done)|omega|rfl) [-getElem?_pos,Ret]
 exact(kB.trans k2).trans k3
def Ywg(l:List Str):Int:=if 64<l.length then 5 else Yu3 l
def Yxz{l:List Str}(hs:Sl h N v (strs l))(hl:l.length<100000)(hf0:∀s∈l,s.length≤100000):Fn A.C 105 [v] h N (fun u _ _=>u=.int .i64 (Ywg l)):=by
 intro w
 have hlen:=hs.len
 rw[Zt1]at hlen
 rw[Zab,A.k105 (by simp)]
 unfold Ywg
 by_cases c1:64<l.length
 ·have c1':64<(l.length:Int):=by omega
  rw[Yqi c1]
  simp(disch:=first|(simp;done)|omega|rfl) [-getElem?_pos,A.b105,hlen,c1,c1',Zh6]
  refine Zaa (Yur hs hl hf0) ?_
  rintro _ h1 n1 k1 rfl
  have hi:n1<n1+1:=by omega
  simp(disch:=first|(simp;done)|omega|rfl) [-getElem?_pos,splice,Zam.chk,Zzo hi,Zau,Ret]
  exact k1.trans (kset Keeps.refl _)
 ·have c1':¬64<(l.length:Int):=by omega
  rw[Yqe c1]
  simp(disch:=first|(simp;done)|omega|rfl) [-getElem?_pos,A.b105,hlen,c1,c1',Zh6]
  refine Zaa (Yur hs hl hf0) ?_
  rintro _ h1 n1 k1 rfl
  have hi:n1<n1+1:=by omega
  have e1:Zau [0,Yu3 l]=Yu3 l:=by
   unfold Zau
   rw[Yqi rfl]
   unfold Zau
   split
   ·rename_i c;rw[c];rfl
   ·rfl
  simp(disch:=first|(simp;done)|omega|rfl) [-getElem?_pos,splice,Zam.chk,Zzo hi,e1,Ret]
  exact k1.trans (kset Keeps.refl _)
def Yya{l:List Str}(hs:Sl h N v (strs l))(hl:l.length<100000)(hf0:∀s∈l,s.length≤100000):Fn A.C 36 [v] h N (fun u _ _=>u=.int .i64 (Ywg l)):=by
 intro w
 have hlen:=hs.len
 rw[Zt1]at hlen
 rw[Zab,A.k36 (by simp)]
 unfold Ywg
 by_cases c1:64<l.length
 ·have c1':64<(l.length:Int):=by omega
  rw[Yqi c1]
  simp(disch:=first|(simp;done)|omega|rfl) [-getElem?_pos,A.b36,hlen,c1,c1',Ret]
  exact Keeps.refl
 ·have c1':¬64<(l.length:Int):=by omega
  rw[Yqe c1]
  simp(disch:=first|(simp;done)|omega|rfl) [-getElem?_pos,A.b36,hlen,c1,c1']
  refine Zaa (Yvq hs hl fun s h=>by have:=hf0 s h;omega) ?_
  rintro _ h1 n1 k1 rfl
  simp(disch:=first|(simp;done)|omega|rfl) [-getElem?_pos,Ret,Yu3]
  exact k1
end
end Go.Mx
