/-lensletref06-/
import Derived.Test.YtgnadghjglamaaaGreatDoorLrC
set_option linter.all false
set_option maxHeartbeats 4000000
namespace Go.Mx
noncomputable section
open Go Go.Proofs
set_option maxRecDepth 1000000
def A.zfH:=A.q Tryz.f166
def A.zgV:=A.ql A.zfH 0 []
def A.b166:=(fun x0=>A.qb A.zfH [x0]) A.zgV
def A.k166:=@A.kk 166 75 [.tmp 4,.tmp 5] A.b166 (by kernel_rfl) rfl
def Yh2{z:Nat}{e:TypeId}{N0:Nat}{h:T O}{N:Nat}{v u:V}{l:List (List V)}{x:List V}{bytes:Nat}{w:List Nat}(s:Own z e N0 h N v l)(hN:N0<=N)(hz:0<z)(hx:x.length=z)(hu:gp ⟨h,N,w⟩ z u=some (1,x))(hb:2*(l.length+1)*bytes<=281474976710656):
  ∃v' h' w',l8 ⟨h,N,w⟩ z bytes e v u=some (v',⟨h',N+1,w'⟩)/\dR v'=[N]/\(∀i∈w',i∈dR v\/i∈w)/\sE (fun i=>i∈dR v) h N h' (N+1)/\Own z e N0 h' (N+1) v' (l++[x]):=by
 obtain⟨v',h',w',f1,f2,f3,f4,f5⟩:=xh s hN hz hx hu hb
 refine⟨v',h',w',f1,Yvr s hu f1,Yxh s hu f1,⟨Ar _,fun j hj hd=>?_⟩,f5⟩
 rcases f4 j with h1|h1|⟨o,n,c,q,h1⟩
 ·exact h1
 ·omega
 ·exact absurd (by rw[h1];simp[dR]) hd
def Yz8{h:T O}{N:Nat}{v:V}{g l p:Rat}{D kc kd K:Nat}{d:List Rat}(hd:Tx h N v d)(qg:Qb kc g)(ql:Qb kc l)(qp:Qb kc p)(qd:∀q∈d,Qb kd q)(hkc:kc<=4000)(hD:D<=6)(hl:d.length<1000)(hK:(3*kc+3)*d.length+kd*(d.length+1)+2<=K)(jC:K<=10000000)(hkd:kd<=10000000):Fn A.C 166 [.agg [.str (ax g),.str (ax l),.str (ax p),.int .i64 D],v] h N (fun x h' n'=>∃a b,x=.aS [a,b]/\Ii h' n' a (Ygt g l p D d)/\Ii h' n' b (Yz7 g l p D d)):=by
 intro w
 have lv:=hd.len
 try rw[rS]at lv
 have kB:ae h N (h.set N (.cells [.str (ax g),.str (ax l),.str (ax p),.int .i64 D] 26 true)) (N+1):=ae.refl.new _
 have b0:(h.set N (.cells [.str (ax g),.str (ax l),.str (ax p),.int .i64 D] 26 true)).get N=some (.cells [.str (ax g),.str (ax l),.str (ax p),.int .i64 D] 26 true):=by simp
 rw[aV,A.k166 (by simp)]
 simp(disch:=first|(simp;done)|omega|rfl) [-getElem?_pos,A.b166]
 generalize h.set N (.cells [.str (ax g),.str (ax l),.str (ax p),.int .i64 D] 26 true)=hB at*
 have hl6:d.length<1000:=hl
 refine c_ [(6,72)] (fun e r st=>e=.exit 0/\aD N st.w=[]/\ae h N st.h st.n/\∃vu,r.get 7=some vu/\∃ve,r.get 6=some ve/\Ii st.h st.n ve (Ygt g l p D d)/\Ii st.h st.n vu (Yz7 g l p D d)) (fun m r st=>aD N st.w=[]/\ae h N st.h st.n/\N<st.n/\st.h.get N=some (.cells [.str (ax g),.str (ax l),.str (ax p),.int .i64 D] 26 true)/\∃t,t+m=d.length/\r.get 9=some (.int .i64 t)/\r.get 8=some (.str (ax (Zuz g l p D d t).2.2))/\∃vu,r.get 7=some vu/\∃ve,r.get 6=some ve/\Own 1 22 (N+1) st.h st.n vu ((tx (Zuz g l p D d t).2.1).map fun y=>[y])/\Own 1 22 (N+1) st.h st.n ve ((tx (Zuz g l p D d t).1).map fun y=>[y])/\∀i∈dR ve,i∉dR vu) d.length ?_ ?_ ?_
 ·exact⟨by simp,kB,by show N<N+1;omega,b0,0,by omega,by simp,by simp[Zuz,Ij],.aa,by simp,.aa,by simp,by simpa[Zuz,tx,strs]using Own.nil,by simpa[Zuz,tx,strs]using Own.nil,by simp[dR]⟩
 ·rintro m r ⟨H,n1,W⟩ hr hf ⟨hW,hK',mF,m0,t,ht,h9,h8,vu,h7,ve,h6,ou1,oe1,dj⟩
  simp only at hW hK' mF m0 ou1 oe1
  rw[dk]
  cases m with
  |zero=>
   obtain rfl:t=d.length:=by omega
   simp(disch:=first|(simp;done)|omega|rfl) [-getElem?_pos,A.zgV,hr,hf,h9,h7,h6,lv,hW,hK']
   exact⟨Ywe oe1,Ywe ou1⟩
  |succ m=>
   have aP:t<d.length:=by omega
   have dE:(t:Int)<(d.length:Int):=by omega
   have Nj:=hK'.le
   have hru:=ou1.lt
   have hre:=oe1.lt
   have rl:=@Yan g l p D d t
   have kU:ae H n1 (H.set n1 (.cells [.str (ax (Zuz g l p D d t).2.2)] 22 true)) (n1+1):=ae.refl.new _
   have gu:(H.set n1 (.cells [.str (ax (Zuz g l p D d t).2.2)] 22 true)).get n1=some (.cells [.str (ax (Zuz g l p D d t).2.2)] 22 true):=by simp
   have su:∀w,gp ⟨H.set n1 (.cells [.str (ax (Zuz g l p D d t).2.2)] 22 true),n1+1,w⟩ 1 (.slice n1 0 1 (some 1) 1)=some (1,[.str (ax (Zuz g l p D d t).2.2)]):=fun w=>by simp[gp,St.row,aE]
   obtain⟨vu',h3,w3,j1,ru,wr3,U3,ou3⟩:=Yh2 (x:=[.str (ax (Zuz g l p D d t).2.2)]) (u:=.slice n1 0 1 (some 1) 1) (bytes:=16) (w:=W) (ou1.ah kU) (by omega) (by decide) rfl (su _) (by simp[rS,rl.2];omega)
   have g3:∀i,i<n1->i∉dR vu->h3.get i=H.get i:=fun i h1 h2=>by rw[U3.get i (by omega) h2,kU.get i (by omega)]
   have K3:ae h N h3 (n1+1+1):=⟨by omega,fun i hi=>by rw[g3 i (by omega) (fun hc=>by have:=hru _ hc;omega),hK'.get i hi]⟩
   obtain⟨i0,o0,c0,e0,Sk,b1,b2,b3,b4⟩:=(hd.ah K3).at (vV (eL (p:=d) (i:=t) aP))
   have rq:=Yqa (D:=D) qg ql qp qd (k:=t) (by omega)
   have rqN:=rq.1.mono hK
   have qdt:=qd _ (eZ (eL (p:=d) (i:=t) aP))
   have hl6:d.length<1000:=hl
   simp(disch:=first|(simp;done)|omega|rfl) [-getElem?_pos, -aD,A.zgV,hr,hf,h9,h8,h7,h6,lv,aP,dE,ag,j1,b1,b2,b3,b4]
   refine az (Dl qdt rqN (by have:=jt qdt;have:=jt rqN;omega) (by have:=jt qdt;have:=jt rqN;omega) (by have:=jt qdt;have:=jt rqN;omega)) ?_
   rintro _ h4 n4 k4 rfl
   have Nb:=k4.le
   have oe3:=(oe1.ah kU).upd U3 dj
   have kV:ae h4 n4 (h4.set n4 (.cells [.str (ax (pg d t-(Zuz g l p D d t).2.2))] 22 true)) (n4+1):=ae.refl.new _
   have k4V:=k4.trans kV
   have sv:∀w,gp ⟨h4.set n4 (.cells [.str (ax (pg d t-(Zuz g l p D d t).2.2))] 22 true),n4+1,w⟩ 1 (.slice n4 0 1 (some 1) 1)=some (1,[.str (ax (pg d t-(Zuz g l p D d t).2.2))]):=fun w=>by simp[gp,St.row,aE]
   obtain⟨ve',h5,w5,i1,re,wr5,U5,oe5⟩:=Yh2 (x:=[.str (ax (pg d t-(Zuz g l p D d t).2.2))]) (u:=.slice n4 0 1 (some 1) 1) (bytes:=16) (w:=w3) (oe3.ah k4V) (by omega) (by decide) rfl (sv _) (by simp[rS,rl.1];omega)
   obtain⟨es,kK⟩:∃es,es=(Zuz g l p D d t).1++[pg d t-(Zuz g l p D d t).2.2]:=⟨_,rfl⟩
   have esl:es.length=t+1:=by rw[kK];simp[rl.1]
   have e1:(Zuz g l p D d (t+1)).1=es:=by rw[kK];rfl
   have e2:(Zuz g l p D d (t+1)).2.1=(Zuz g l p D d t).2.1++[(Zuz g l p D d t).2.2]:=rfl
   have oe9:Own 1 22 (N+1) h5 (n4+1+1) ve' ((tx es).map fun y=>[y]):=by rw[kK];simpa[tx,strs]using oe5
   have ou9:Own 1 22 (N+1) h5 (n4+1+1) vu' ((tx (Zuz g l p D d (t+1)).2.1).map fun y=>[y]):=by
    rw[e2]
    have:=((ou3.ah k4V).upd U5 (fun i hi hc=>by rw[ru]at hi;simp at hi;have:=hre _ hc;omega))
    simpa[tx,strs]using this
   have K9:ae h N h5 (n4+1+1):=⟨by omega,fun i hi=>by rw[U5.get i (by omega) (fun hc=>by have:=hre _ hc;omega),k4V.get i (by omega),K3.get i hi]⟩
   have s0:h5.get N=some (.cells [.str (ax g),.str (ax l),.str (ax p),.int .i64 D] 26 true):=by rw[U5.get N (by omega) (fun hc=>by have:=hre _ hc;omega),k4V.get N (by omega),g3 N (by omega) (fun hc=>by have:=hru _ hc;omega)];exact m0
   have djn:∀i∈dR ve',i∉dR vu':=fun i hi hc=>by rw[re]at hi;rw[ru]at hc;simp at hi hc;omega
   have lN:N<n4+1+1:=by omega
   have qe:∀q∈es,Qb (kd+K+1) q:=fun q hq=>by
    rw[kK]at hq
    rcases l7.1 hq with hq|hq
    ·exact((rq.2 q hq).mono hK).mono (by omega)
    ·simp at hq
     rw[hq]
     exact qdt.sub rqN
   have q00:Qb (kd+K+1) 0:=(Qb.int (z:=0) (k:=1) (by decide) (by decide)).mono (by omega)
   have fs9:Sl h5 (n4+1+1) ve' (tx es):=(Ywe oe9).1
   have lve:=fs9.len
   rw[rS,esl]at lve
   have fW:aD N w5=[]:=Dr fun i hi=>by
    rcases wr5 i hi with q1|q1
    ·have:=hre _ q1;omega
    ·rcases wr3 i q1 with q2|q2
     ·have:=hru _ q2;omega
     ·exact Sj hW i q2
   have K2':kd+K+1<=20000001:=by omega
   clear oe5 oe3 U5 U3 wr5 wr3 kU su sv kV gu
   by_cases cD:D<=t
   ·have d1:(D:Int)<=(t:Int):=by omega
    have d2:(t:Int)-(D:Int)<((t+1:Nat):Int):=by omega
    have d3:((t:Int)-(D:Int)).toNat=t-D:=by omega
    have d0:(0:Int)<=(t:Int)-(D:Int):=by omega
    obtain⟨NT,Sm,NI,NJ,w1',c1,c2,c3,c4⟩:=fs9.at (vV (eL (p:=es) (i:=t-D) (by omega)))
    by_cases cE:D+1<=t
    ·have f1:(1:Int)<=(t:Int)-(D:Int):=by omega
     have f2:(t:Int)-(D:Int)-1<((t+1:Nat):Int):=by omega
     have f3:((t:Int)-(D:Int)-1).toNat=t-(D+1):=by omega
     have f0:(0:Int)<=(t:Int)-(D:Int)-1:=by omega
     obtain⟨Se,So,La,y2',w2',p1,p2,p3,p4⟩:=fs9.at (vV (eL (p:=es) (i:=t-(D+1)) (by omega)))
     rw[c1]at p1
     obtain⟨rfl,rfl⟩:NT=Se/\Sm=So:=by simpa using p1
     rw[c3]at p3
     obtain⟨rfl,rfl,rfl⟩:NI=La/\NJ=y2'/\w1'=w2':=by simpa using p3
     simp(disch:=first|(simp;done)|omega|rfl) [-getElem?_pos, -aD,hr,hf,ag,i1,h9,h8,s0,lN,aJ,aE,d0,d1,d2,d3,f0,f1,f2,f3,lve,c1,c2,c3,c4,p4]
     have eL1:Zwn es D t=pg es (t-D):=aQ cD
     have eL2:Zwn es (D+1) t=pg es (t-(D+1)):=aQ cE
     have bL1:Qb (kd+K+1) (pg es (t-D)):=qe _ (eZ (eL (by omega)))
     have bL2:Qb (kd+K+1) (pg es (t-(D+1))):=qe _ (eZ (eL (by omega)))
     have m2:=fun (h:T O) (N:Nat)=>uM (h:=h) (N:=N) qg bL1 (by omega) (by omega)
     have m3:=fun (h:T O) (N:Nat)=>Dl (h:=h) (N:=N) bL1 bL2 (by have:=jt bL1;have:=jt bL2;omega) (by have:=jt bL1;have:=jt bL2;omega) (by have:=jt bL1;have:=jt bL2;omega)
     refine az (uM ql rqN (by omega) (by omega)) ?_
     rintro _ fA xY k11 rfl
     have x1:=(k11.get N (by omega)).trans s0
     have y1:N<xY:=by have:=k11.le;omega
     simp(disch:=first|(simp;done)|omega|rfl) [-getElem?_pos, -aD,hr,hf,x1,y1,aJ,aE]
     refine az (m2 fA xY) ?_
     rintro _ eK eN k12 rfl
     have x2:=(k12.get N (by omega)).trans x1
     have y2:N<eN:=by have:=k12.le;omega
     simp(disch:=first|(simp;done)|omega|rfl) [-getElem?_pos, -aD,hr,hf,x2,y2,aJ,aE]
     refine az (m3 eK eN) ?_
     rintro _ Ix n13 k13 rfl
     simp(disch:=first|(simp;done)|omega|rfl) [-getElem?_pos, -aD]
     refine az (uM qp (bL1.sub bL2) (by omega) (by omega)) ?_
     rintro _ rP KX k14 rfl
     simp(disch:=first|(simp;done)|omega|rfl) [-getElem?_pos, -aD]
     refine az (AI (qg.mul bL1) (qp.mul (bL1.sub bL2)) (by omega) (by omega)) ?_
     rintro _ xl n15 k15 rfl
     simp(disch:=first|(simp;done)|omega|rfl) [-getElem?_pos, -aD]
     refine az (AI (ql.mul rqN) ((qg.mul bL1).add (qp.mul (bL1.sub bL2))) (by omega) (by omega)) ?_
     rintro _ BR n16 k16 rfl
     have kz:=((((k11.trans k12).trans k13).trans k14).trans k15).trans k16
     have lz:=kz.le
     simp(disch:=first|(simp;done)|omega|rfl) [-getElem?_pos, -aD,hr,hf,h9]
     have e3:(Zuz g l p D d (t+1)).2.2=l*(Zuz g l p D d t).2.2+(g*pg es (t-D)+p*(pg es (t-D)-pg es (t-(D+1)))):=by
      have e0':(Zuz g l p D d (t+1)).2.2=l*(Zuz g l p D d t).2.2+(g*Zwn es D t+p*(Zwn es D t-Zwn es (D+1) t)):=by rw[kK];rfl
      rw[e0',eL1,eL2]
     exact⟨m,by omega,fW,K9.trans kz,by omega,(kz.get N (by omega)).trans s0,t+1,by omega,by simp,by rw[e3],ou9.ah kz,by rw[e1];exact oe9.ah kz,djn⟩
    ·have f1:¬(1:Int)<=(t:Int)-(D:Int):=by omega
     have f0:¬(0:Int)<=(t:Int)-(D:Int)-1:=by omega
     have e0':Sm+(t-D)=Sm:=by omega
     have c4':=c4
     rw[e0']at c4'
     simp(disch:=first|(simp;done)|omega|rfl) [-getElem?_pos, -aD,hr,hf,ag,i1,h9,h8,s0,lN,aJ,aE,d0,d1,d2,d3,f0,f1,lve,c1,c2,c3,c4,c4']
     have eL1:Zwn es D t=pg es 0:=(aQ cD).trans (by rw[show t-D=0 by omega])
     have eL2:Zwn es (D+1) t=0:=aA cE
     have bL1:Qb (kd+K+1) (pg es 0):=qe _ (eZ (eL (p:=es) (i:=0) (by omega)))
     have bL2:Qb (kd+K+1) (0):=q00
     have m2:=fun (h:T O) (N:Nat)=>uM (h:=h) (N:=N) qg bL1 (by omega) (by omega)
     have m3:=fun (h:T O) (N:Nat)=>Dl (h:=h) (N:=N) bL1 bL2 (by have:=jt bL1;have:=jt bL2;omega) (by have:=jt bL1;have:=jt bL2;omega) (by have:=jt bL1;have:=jt bL2;omega)
     simp only[Ij]at m3
     refine az (uM ql rqN (by omega) (by omega)) ?_
     rintro _ fA xY k11 rfl
     have x1:=(k11.get N (by omega)).trans s0
     have y1:N<xY:=by have:=k11.le;omega
     simp(disch:=first|(simp;done)|omega|rfl) [-getElem?_pos, -aD,hr,hf,x1,y1,aJ,aE]
     refine az (m2 fA xY) ?_
     rintro _ eK eN k12 rfl
     have x2:=(k12.get N (by omega)).trans x1
     have y2:N<eN:=by have:=k12.le;omega
     simp(disch:=first|(simp;done)|omega|rfl) [-getElem?_pos, -aD,hr,hf,x2,y2,aJ,aE]
     refine az (m3 eK eN) ?_
     rintro _ Ix n13 k13 rfl
     simp(disch:=first|(simp;done)|omega|rfl) [-getElem?_pos, -aD]
     refine az (uM qp (bL1.sub bL2) (by omega) (by omega)) ?_
     rintro _ rP KX k14 rfl
     simp(disch:=first|(simp;done)|omega|rfl) [-getElem?_pos, -aD]
     refine az (AI (qg.mul bL1) (qp.mul (bL1.sub bL2)) (by omega) (by omega)) ?_
     rintro _ xl n15 k15 rfl
     simp(disch:=first|(simp;done)|omega|rfl) [-getElem?_pos, -aD]
     refine az (AI (ql.mul rqN) ((qg.mul bL1).add (qp.mul (bL1.sub bL2))) (by omega) (by omega)) ?_
     rintro _ BR n16 k16 rfl
     have kz:=((((k11.trans k12).trans k13).trans k14).trans k15).trans k16
     have lz:=kz.le
     simp(disch:=first|(simp;done)|omega|rfl) [-getElem?_pos, -aD,hr,hf,h9]
     have e3:(Zuz g l p D d (t+1)).2.2=l*(Zuz g l p D d t).2.2+(g*pg es 0+p*(pg es 0-0)):=by
      have e0':(Zuz g l p D d (t+1)).2.2=l*(Zuz g l p D d t).2.2+(g*Zwn es D t+p*(Zwn es D t-Zwn es (D+1) t)):=by rw[kK];rfl
      rw[e0',eL1,eL2]
     exact⟨m,by omega,fW,K9.trans kz,by omega,(kz.get N (by omega)).trans s0,t+1,by omega,by simp,by rw[e3],ou9.ah kz,by rw[e1];exact oe9.ah kz,djn⟩
   ·have d1:¬(D:Int)<=(t:Int):=by omega
    have d0:¬(0:Int)<=(t:Int)-(D:Int):=by omega
    have cE:¬D+1<=t:=by omega
    have f1:¬(1:Int)<=(t:Int)-(D:Int):=by omega
    have f0:¬(0:Int)<=(t:Int)-(D:Int)-1:=by omega
    obtain⟨z0,pd⟩:∃z0:Rat,z0=0:=⟨0,rfl⟩
    have tz:ax z0=[48]:=by rw[pd];exact Ij
    have qz:Qb (kd+K+1) z0:=by rw[pd];exact q00
    simp(disch:=first|(simp;done)|omega|rfl) [-getElem?_pos, -aD,hr,hf,ag,i1,h9,h8,s0,lN,aJ,aE,d0,d1,f0,f1]
    have eL1:Zwn es D t=z0:=(aA cD).trans pd.symm
    have eL2:Zwn es (D+1) t=z0:=(aA cE).trans pd.symm
    have bL1:Qb (kd+K+1) (z0):=qz
    have bL2:Qb (kd+K+1) (z0):=qz
    have m2:=fun (h:T O) (N:Nat)=>uM (h:=h) (N:=N) qg bL1 (by omega) (by omega)
    have m3:=fun (h:T O) (N:Nat)=>Dl (h:=h) (N:=N) bL1 bL2 (by have:=jt bL1;have:=jt bL2;omega) (by have:=jt bL1;have:=jt bL2;omega) (by have:=jt bL1;have:=jt bL2;omega)
    simp only[tz]at m2 m3
    refine az (uM ql rqN (by omega) (by omega)) ?_
    rintro _ fA xY k11 rfl
    have x1:=(k11.get N (by omega)).trans s0
    have y1:N<xY:=by have:=k11.le;omega
    simp(disch:=first|(simp;done)|omega|rfl) [-getElem?_pos, -aD,hr,hf,x1,y1,aJ,aE]
    refine az (m2 fA xY) ?_
    rintro _ eK eN k12 rfl
    have x2:=(k12.get N (by omega)).trans x1
    have y2:N<eN:=by have:=k12.le;omega
    simp(disch:=first|(simp;done)|omega|rfl) [-getElem?_pos, -aD,hr,hf,x2,y2,aJ,aE]
    refine az (m3 eK eN) ?_
    rintro _ Ix n13 k13 rfl
    simp(disch:=first|(simp;done)|omega|rfl) [-getElem?_pos, -aD]
    refine az (uM qp (bL1.sub bL2) (by omega) (by omega)) ?_
    rintro _ rP KX k14 rfl
    simp(disch:=first|(simp;done)|omega|rfl) [-getElem?_pos, -aD]
    refine az (AI (qg.mul bL1) (qp.mul (bL1.sub bL2)) (by omega) (by omega)) ?_
    rintro _ xl n15 k15 rfl
    simp(disch:=first|(simp;done)|omega|rfl) [-getElem?_pos, -aD]
    refine az (AI (ql.mul rqN) ((qg.mul bL1).add (qp.mul (bL1.sub bL2))) (by omega) (by omega)) ?_
    rintro _ BR n16 k16 rfl
    have kz:=((((k11.trans k12).trans k13).trans k14).trans k15).trans k16
    have lz:=kz.le
    simp(disch:=first|(simp;done)|omega|rfl) [-getElem?_pos, -aD,hr,hf,h9]
    have e3:(Zuz g l p D d (t+1)).2.2=l*(Zuz g l p D d t).2.2+(g*z0+p*(z0-z0)):=by
     have e0':(Zuz g l p D d (t+1)).2.2=l*(Zuz g l p D d t).2.2+(g*Zwn es D t+p*(Zwn es D t-Zwn es (D+1) t)):=by rw[kK];rfl
     rw[e0',eL1,eL2]
    exact⟨m,by omega,fW,K9.trans kz,by omega,(kz.get N (by omega)).trans s0,t+1,by omega,by simp,by rw[e3],ou9.ah kz,by rw[e1];exact oe9.ah kz,djn⟩
 ·rintro _ r ⟨H,n1,W⟩ hr ⟨rfl,hW,hK',vu,h7,ve,h6,fe,fu⟩
  simp only at hW hK' fe fu
  simp(disch:=first|(simp;done)|omega|rfl) [-getElem?_pos,hr,h6,h7,hW,hK',aF]
  exact⟨ve,vu,⟨rfl,rfl⟩,fe,fu⟩
variable {K N:Nat} {h:T O} {l:List Rat} {v:V}
def A.zfI:=A.q Tryz.f132
def A.zgW:=A.ql A.zfI 0 []
def A.b132:=(fun x0=>A.qb A.zfI [x0]) A.zgW
def A.k132:=@A.kk 132 22 [.cell 4 (some 4)] A.b132 (by kernel_rfl) rfl
def A.b163:=A.q Tryz.f163
def A.k163:=@A.kk 163 6 [.cell 2 (some 4)] A.b163 (by kernel_rfl) rfl
def A.b81:=A.q Tryz.f81
def A.k81:=@A.kk 81 15 [.cell 4 (some 4)] A.b81 (by kernel_rfl) rfl
def A.zfJ:=A.q Tryz.f167
def A.zgX:=A.ql A.zfJ 0 []
def A.b167:=(fun x0=>A.qb A.zfJ [x0]) A.zgX
def A.k167:=@A.kk 167 25 [.tmp 4] A.b167 (by kernel_rfl) rfl
def A.b84:=A.q Tryz.f84
def A.k84:=@A.kk 84 16 [.tmp 4] A.b84 (by kernel_rfl) rfl
def A.b70:=A.q Tryz.f70
def A.k70:=@A.kk 70 11 [.tmp 2] A.b70 (by kernel_rfl) rfl
def A.b23:=A.q Tryz.f23
def A.k23:=@A.kk 23 8 [.tmp 2] A.b23 (by kernel_rfl) rfl
def sqN(l:List Rat):Nat->Rat
 |0=>0
 |k+1=>sqN l k+pg l k*pg l k
def sqQ(l:List Rat):Rat:=sqN l l.length
def Yv8{l:List Rat}{K:Nat}(hl:∀y∈l,Qb K y):∀{k:Nat},k<=l.length->Qb (1+k*(K+K+1)) (sqN l k)
 |0,_=>(Qb.int (z:=0) (k:=1) (by decide) (by decide)).mono (by omega)
 |k+1,h=>by
  have ih:=Yv8 hl (k:=k) (by omega)
  have hq:=hl _ (eZ (eL (p:=l) (i:=k) (by omega)))
  rw[sqN,jg]
  exact(ih.add (hq.mul hq)).mono (by omega)
def Yw1{c:List V}{q:Rat}(hc:dB h N c q)(bq:Qb K q)(hK:K<=400000000):FnV A.C (.func 163 [] []) [.agg c] h N (fun v h' n'=>Fc h' n' v (q*q)):=by
 intro w
 have lY:∀c:List V,(V.agg c).cells=c:=fun _=>rfl
 obtain⟨c1,c2⟩:=hc.len
 have kB:ae h N ((h.set N (.cells c 110 true)).set (N+1) (.cells [.int .i64 0,.aa,.int .i64 0,.aa] 110 true)) (N+1+1):=(ae.refl.new _).new _
 have gB:((h.set N (.cells c 110 true)).set (N+1) (.cells [.int .i64 0,.aa,.int .i64 0,.aa] 110 true)).get (N+1)=some (.cells [.int .i64 0,.aa,.int .i64 0,.aa] 110 true):=by simp
 have sc:=tI c1
 have wq:=bq.iC
 rw[aV,A.k163 (by simp)]
 simp(disch:=first|(simp;done)|omega|rfl) [-getElem?_pos, -V.cells, -V.one,A.b163,lY,c1,c2,aJ,sc]
 generalize (h.set N (.cells c 110 true)).set (N+1) (.cells [.int .i64 0,.aa,.int .i64 0,.aa] 110 true)=H at*
 refine az (KY (hc.ah kB).up (hc.ah kB).up (by omega) (by omega) (by omega) (by omega)) ?_
 rintro _ h2 n2 k2 hm
 obtain⟨c3,rfl,f3⟩:=hm.c
 obtain⟨e1,e2⟩:=f3.len
 have g2:=(k2.get (N+1) (by omega)).trans gB
 have oP:=k2.le
 have l2:N+1<n2:=by omega
 have e4:=rT (d:=zF) e1 rfl
 have e0:zF=[V.int .i64 0,.aa,.int .i64 0,.aa]:=rfl
 rw[e0]at e4
 have s3:=tI e1
 simp(disch:=first|(simp;done)|omega|rfl) [-getElem?_pos, -V.cells, -V.one,lY,e1,e2,bE,g2,l2,e4,s3,aJ,aF]
 exact⟨(kB.trans k2).set (by omega),(f3.aG g2 (by intro x hx m;simp at hx;rcases hx with rfl|rfl|rfl|rfl<;>simp) (by simp[e1])).up⟩
def Yzt(hs:yR h N v l)(bl:∀y∈l,Qb K y)(hl:l.length<1000)(hK:K<=100000):Fn A.C 132 [v,.func 163 [] []] h N (fun x h' n'=>Fc h' n' x (sqQ l)):=by
 intro w
 have lY:∀c:List V,(V.agg c).cells=c:=fun _=>rfl
 have e0:zF=[V.int .i64 0,.aa,.int .i64 0,.aa]:=rfl
 have lv:=hs.len
 have kB:ae h N (h.set N (.cells [.int .i64 0,.aa,.int .i64 0,.aa] 110 true)) (N+1):=ae.refl.new _
 have gR:(h.set N (.cells [.int .i64 0,.aa,.int .i64 0,.aa] 110 true)).get N=some (.cells [.int .i64 0,.aa,.int .i64 0,.aa] 110 true):=by simp
 rw[aV,A.k132 (by simp)]
 simp(disch:=first|(simp;done)|omega|rfl) [-getElem?_pos, -V.cells, -V.one,A.b132]
 generalize h.set N (.cells [.int .i64 0,.aa,.int .i64 0,.aa] 110 true)=H0 at*
 refine az (xj (z:=0) (by decide) (by decide)) ?_
 rintro _ h1 n1 k1 hz
 obtain⟨c0,rfl,f0⟩:=hz.c
 obtain⟨g1,g2⟩:=f0.len
 have e4:=rT (d:=zF) g1 rfl
 rw[e0]at e4
 have uw:=k1.le
 have kD:ae h1 n1 ((h1.set n1 (.cells [.int .i64 0,.aa,.int .i64 0,.aa] 110 true)).set n1 (.cells c0 110 true)) (n1+1):=(ae.refl.new _).set (aZ _)
 have gS:((h1.set n1 (.cells [.int .i64 0,.aa,.int .i64 0,.aa] 110 true)).set n1 (.cells c0 110 true)).get n1=some (.cells c0 110 true):=by simp
 simp(disch:=first|(simp;done)|omega|rfl) [-getElem?_pos, -V.cells, -V.one,lY,g1,g2,bE,e4,lv]
 generalize (h1.set n1 (.cells [.int .i64 0,.aa,.int .i64 0,.aa] 110 true)).set n1 (.cells c0 110 true)=H2 at*
 have gR2:=(kD.get N (by omega)).trans ((k1.get N (by omega)).trans gR)
 refine c_ [(7,7),(11,20)] (fun e r st=>e=.exit 0/\aD N st.w=[]/\ae h N st.h st.n/\n1<st.n/\st.h.get N=some (.cells [.int .i64 0,.aa,.int .i64 0,.aa] 110 true)/\∃cs,st.h.get n1=some (.cells cs 110 true)/\dB st.h st.n cs (sqQ l)) (fun m r st=>aD N st.w=[]/\ae h N st.h st.n/\n1<st.n/\st.h.get N=some (.cells [.int .i64 0,.aa,.int .i64 0,.aa] 110 true)/\∃t,t+m=l.length/\r.get 11=some (.int .i64 t)/\∃cs,st.h.get n1=some (.cells cs 110 true)/\dB st.h st.n cs (sqN l t)) l.length ?_ ?_ ?_
 ·exact⟨Dr fun i hi=>by simp at hi;omega,(kB.trans k1).trans kD,by show n1<n1+1;omega,gR2,0,by omega,by simp,c0,gS,f0.ah kD⟩
 ·rintro m r ⟨H,n2,W⟩ hr hf ⟨hW,hK',hn,gN,t,ht,fA,cs,gs,fs⟩
  simp only at hW hK' hn gN gs fs
  rw[dk]
  cases m with
  |zero=>
   obtain rfl:t=l.length:=by omega
   simp(disch:=first|(simp;done)|omega|rfl) [-getElem?_pos,A.zgW,hr,hf,fA,hW,hK',hn,gN,gs]
   exact fs
  |succ m=>
   have aP:t<l.length:=by omega
   have dE:(t:Int)<(l.length:Int):=by omega
   obtain⟨i0,o0,y0,z0,q0,cx,b1,b2,b3,b4,b5⟩:=(hs.ah hK').at (eL (p:=l) (i:=t) aP)
   obtain⟨f1,f2⟩:=b5.len
   obtain⟨u1,u2⟩:=fs.len
   have ex:=rT (d:=zF) f1 rfl
   rw[e0]at ex
   have sx:=tI f1
   have ss:=tI u1
   have kX:ae H n2 ((H.set n2 (.cells [.int .i64 0,.aa,.int .i64 0,.aa] 110 true)).set n2 (.cells cx 110 true)) (n2+1):=(ae.refl.new _).set (aZ _)
   have gs1:=(kX.get n1 hn).trans gs
   have gX:((H.set n2 (.cells [.int .i64 0,.aa,.int .i64 0,.aa] 110 true)).set n2 (.cells cx 110 true)).get n2=some (.cells cx 110 true):=by simp
   have zc:=(kX.get N (by omega)).trans gN
   have ln1:n1<n2+1:=by omega
   have NH:¬n1=n2:=by omega
   have bq:=bl _ (eZ (eL (p:=l) (i:=t) aP))
   simp(disch:=first|(simp;done)|omega|rfl) [-getElem?_pos, -V.cells, -V.one,A.zgW,hr,hf,fA,aP,dE,lv,b1,b2,b3,b4,lY,f1,f2,bE,ex,aJ,gs,NH,ln1,ss,sx]
   generalize (H.set n2 (.cells [.int .i64 0,.aa,.int .i64 0,.aa] 110 true)).set n2 (.cells cx 110 true)=HX at*
   refine Yyx (Yw1 (b5.ah kX) bq (by omega)) ?_
   rintro v3 h3 n3 k3 BS
   have bs:=Yv8 bl (k:=t) (by omega)
   have NO:t*(K+K+1)<=1000*200001:=jf (by omega) (by omega)
   have ws:=bs.iC
   have wq:=(bq.mul bq).iC
   simp(disch:=first|(simp;done)|omega|rfl) [-getElem?_pos, -V.cells, -V.one]
   refine az (KW ((fs.ah kX).ah k3).up BS (by omega) (by omega) (by omega) (by omega)) ?_
   rintro _ h4 n4 k4 hm
   obtain⟨c4,rfl,f4⟩:=hm.c
   obtain⟨p1,p2⟩:=f4.len
   have kk:=k3.trans k4
   have lek:=kk.le
   have gs4:=(kk.get n1 (by omega)).trans gs1
   have l4:n1<n4:=by omega
   have e5:=rT (d:=cs) p1 u1
   have l5:4<=cs.length:=by omega
   have nuS:=fs.KZ
   simp(disch:=first|(simp;done)|omega|rfl) [-getElem?_pos, -V.cells, -V.one,hr,hf,fA,lY,p1,p2,bE,gs4,l4,e5,l5,bU.bZ]
   exact⟨m,by omega,by rw[aA (show ¬n1<N by omega),aA (show ¬n2<N by omega)];exact hW,((hK'.trans kX).trans kk).set (by omega),by rw[aA (by omega)];exact(kk.get N (by omega)).trans zc,t+1,by omega,by simp,f4.aG gs4 nuS (by omega)⟩
 ·rintro _ r ⟨H,n2,W⟩ hr ⟨rfl,hW,hK',hn,gN,cs,gs,fs⟩
  simp only at hW hK' hn gN gs fs
  obtain⟨u1,u2⟩:=fs.len
  have e5:=rT (d:=zF) u1 rfl
  rw[e0]at e5
  have ss:=tI u1
  have lN:N<n2:=by omega
  simp(disch:=first|(simp;done)|omega|rfl) [-getElem?_pos, -V.cells, -V.one,hr,gs,hn,aJ,ss,lY,u1,u2,bE,gN,lN,e5,aF]
  exact⟨hW,hK'.set (aZ _),(fs.aG gN (by intro x hx m;simp at hx;rcases hx with rfl|rfl|rfl|rfl<;>simp) (by simp[u1])).up⟩
def Yzz{g l p:Rat}{D kc kd:Nat}{d:List Rat}(hd:nK h N v d)(qg:Qb kc g)(ql:Qb kc l)(qp:Qb kc p)(qd:∀q∈d,Qb kd q)(hkc:kc<=4000)(hD:D<=6)(hl:d.length<1000)(hK:(3*kc+3)*d.length+kd*(d.length+1)+2<=K)(jC:K<=100000)(hkd:kd<=10000000):Fn A.C 81 [.agg [.str (ax g),.str (ax l),.str (ax p),.int .i64 D],v] h N (fun x h' n'=>Fc h' n' x (sqQ (Ygt g l p D d))):=by
 intro w
 have lY:∀c:List V,(V.agg c).cells=c:=fun _=>rfl
 have e0:zF=[V.int .i64 0,.aa,.int .i64 0,.aa]:=rfl
 have kB:ae h N ((h.set N (.cells [.str (ax g),.str (ax l),.str (ax p),.int .i64 D] 24 true)).set (N+1) (.cells [.int .i64 0,.aa,.int .i64 0,.aa] 110 true)) (N+1+1):=(ae.refl.new _).new _
 have gR:((h.set N (.cells [.str (ax g),.str (ax l),.str (ax p),.int .i64 D] 24 true)).set (N+1) (.cells [.int .i64 0,.aa,.int .i64 0,.aa] 110 true)).get (N+1)=some (.cells [.int .i64 0,.aa,.int .i64 0,.aa] 110 true):=by simp
 rw[aV,A.k81 (by simp)]
 simp(disch:=first|(simp;done)|omega|rfl) [-getElem?_pos,A.b81,aJ,aE]
 generalize (h.set N (.cells [.str (ax g),.str (ax l),.str (ax p),.int .i64 D] 24 true)).set (N+1) (.cells [.int .i64 0,.aa,.int .i64 0,.aa] 110 true)=HB at*
 refine az (Xaa (hd.ah kB) qg ql qp qd hkc hD hl hK (by omega) hkd) ?_
 rintro _ h2 n2 k2 ⟨a,b,rfl,fa,_⟩
 have oP:=k2.le
 have rl:=(@Yan g l p D d d.length).1
 have rq:=Yqa (D:=D) qg ql qp qd (k:=d.length) (aZ _)
 simp(disch:=first|(simp;done)|omega|rfl) [-getElem?_pos,]
 refine az (Yzt (K:=K) fa.1 (fun y hy=>(rq.2 y hy).mono hK) (by unfold Ygt;rw[rl];exact hl) jC) ?_
 rintro _ h3 n3 k3 hx
 obtain⟨c,rfl,fc⟩:=hx.c
 obtain⟨u1,u2⟩:=fc.len
 have kk:=k2.trans k3
 have lek:=kk.le
 have gR3:=(kk.get (N+1) (by omega)).trans gR
 have lR:N+1<n3:=by omega
 have e5:=rT (d:=zF) u1 rfl
 rw[e0]at e5
 have ss:=tI u1
 simp(disch:=first|(simp;done)|omega|rfl) [-getElem?_pos, -V.cells, -V.one,lY,u1,u2,bE,gR3,lR,e5,ss,aJ,aF]
 exact⟨(kB.trans kk).set (by omega),(fc.aG gR3 (by intro x hx m;simp at hx;rcases hx with rfl|rfl|rfl|rfl<;>simp) (by simp[u1])).up⟩
def Yzu{u:V}(hu:Tx h N u l)(bl:∀y∈l,Qb K y)(hl:l.length<1000)(hK:K<=100000):Fn A.C 167 [u,u] h N (fun y _ _=>y=.str (ax (sqQ l))):=by
 intro w
 have lu:=hu.len
 try rw[rS]at lu
 rw[aV,A.k167 (by simp)]
 simp(disch:=first|(simp;done)|omega|rfl) [-getElem?_pos,A.b167]
 refine c_ [(5,23)] (fun e r st=>e=.exit 0/\aD N st.w=[]/\ae h N st.h st.n/\r.get 5=some (.str (ax (sqQ l)))) (fun m r st=>aD N st.w=[]/\ae h N st.h st.n/\∃t,t+m=l.length/\r.get 6=some (.int .i64 t)/\r.get 5=some (.str (ax (sqN l t)))) l.length ?_ ?_ ?_
 ·exact⟨by simp,ae.refl,0,by omega,by simp,by simp[sqN,Ij]⟩
 ·rintro m r ⟨H,n6,W⟩ hr hf ⟨hW,hK',t,ht,h6,h5⟩
  simp only at hW hK'
  rw[dk]
  cases m with
  |zero=>
   obtain rfl:t=l.length:=by omega
   simp(disch:=first|(simp;done)|omega|rfl) [-getElem?_pos,A.zgX,hr,hf,h6,h5,lu,hW,hK']
   rfl
  |succ m=>
   have aP:t<l.length:=by omega
   have dE:(t:Int)<(l.length:Int):=by omega
   obtain⟨i,o,cc,e,rw,q1,q2,q3,q4⟩:=(hu.ah hK').at (vV (eL (p:=l) (i:=t) aP))
   have bq:=bl _ (eZ (eL (p:=l) (i:=t) aP))
   have bs:=Yv8 bl (k:=t) (by omega)
   have NO:t*(K+K+1)<=1000*200001:=jf (by omega) (by omega)
   simp(disch:=first|(simp;done)|omega|rfl) [-getElem?_pos,A.zgX,hr,hf,h6,h5,lu,aP,dE,q1,q2,q3,q4]
   refine az (uM bq bq (by omega) (by omega)) ?_
   rintro _ h3 n3 k3 rfl
   simp(disch:=first|(simp;done)|omega|rfl) [-getElem?_pos,]
   refine az (AI bs (bq.mul bq) (by omega) (by omega)) ?_
   rintro _ h4 n4 k4 rfl
   simp(disch:=first|(simp;done)|omega|rfl) [-getElem?_pos,hr,hf,h6]
   exact⟨m,by omega,by simpa using hW,(hK'.trans k3).trans k4,t+1,by omega,by simp,rfl⟩
 ·rintro _ r ⟨H,n6,W⟩ hr ⟨rfl,hW,hK',h5⟩
  simp only at hW hK'
  simp(disch:=first|(simp;done)|omega|rfl) [-getElem?_pos,hr,h5,hW,hK',aF]
def Yzw{g l p:Rat}{D kc kd:Nat}{d:List Rat}(hd:Tx h N v d)(qg:Qb kc g)(ql:Qb kc l)(qp:Qb kc p)(qd:∀q∈d,Qb kd q)(hkc:kc<=4000)(hD:D<=6)(hl:d.length<1000)(hK:(3*kc+3)*d.length+kd*(d.length+1)+2<=K)(jC:K<=100000)(hkd:kd<=10000000):Fn A.C 84 [.agg [.str (ax g),.str (ax l),.str (ax p),.int .i64 D],v] h N (fun y _ _=>y=.str (ax (sqQ (Ygt g l p D d)))):=by
 intro w
 have kB:ae h N (h.set N (.cells [.str (ax g),.str (ax l),.str (ax p),.int .i64 D] 26 true)) (N+1):=ae.refl.new _
 rw[aV,A.k84 (by simp)]
 simp(disch:=first|(simp;done)|omega|rfl) [-getElem?_pos,A.b84,aJ,aE]
 generalize h.set N (.cells [.str (ax g),.str (ax l),.str (ax p),.int .i64 D] 26 true)=HB at*
 refine az (Yz8 (hd.ah kB) qg ql qp qd hkc hD hl hK (by omega) hkd) ?_
 rintro _ h2 n2 k2 ⟨a,b,rfl,fa,_⟩
 have rl:=(@Yan g l p D d d.length).1
 have rq:=Yqa (D:=D) qg ql qp qd (k:=d.length) (aZ _)
 simp(disch:=first|(simp;done)|omega|rfl) [-getElem?_pos,]
 refine az (Yzu (K:=K) fa.1 (fun y hy=>(rq.2 y hy).mono hK) (by unfold Ygt;rw[rl];exact hl) jC) ?_
 rintro _ h3 n3 k3 rfl
 simp(disch:=first|(simp;done)|omega|rfl) [-getElem?_pos,aF]
 exact(kB.trans k2).trans k3
def sJ(l:List aU):Int:=if 64<l.length then 5 else BM l
def Xah{l:List aU}(hs:Sl h N v (strs l))(hl:l.length<100000)(qA:∀s∈l,s.length<=100000):Fn A.C 70 [v] h N (fun u _ _=>u=.int .i64 (sJ l)):=by
 intro w
 have hlen:=hs.len
 rw[BL]at hlen
 rw[aV,A.k70 (by simp)]
 unfold sJ
 by_cases c1:64<l.length
 ·have c1':64<(l.length:Int):=by omega
  rw[aQ c1]
  simp(disch:=first|(simp;done)|omega|rfl) [-getElem?_pos,A.b70,hlen,c1,c1',zd]
  refine az (Yd7 hs hl qA) ?_
  rintro _ h1 n1 k1 rfl
  have hi:n1<n1+1:=by omega
  simp(disch:=first|(simp;done)|omega|rfl) [-getElem?_pos,ag,bU.bZ,Lk hi,cY,aF]
  exact k1.trans (aI ae.refl _)
 ·have c1':¬64<(l.length:Int):=by omega
  rw[aA c1]
  simp(disch:=first|(simp;done)|omega|rfl) [-getElem?_pos,A.b70,hlen,c1,c1',zd]
  refine az (Yd7 hs hl qA) ?_
  rintro _ h1 n1 k1 rfl
  have hi:n1<n1+1:=by omega
  have e1:cY [0,BM l]=BM l:=by
   unfold cY
   rw[aQ rfl]
   unfold cY
   split
   ·rename_i c;rw[c];rfl
   ·rfl
  simp(disch:=first|(simp;done)|omega|rfl) [-getElem?_pos,ag,bU.bZ,Lk hi,e1,aF]
  exact k1.trans (aI ae.refl _)
def Xaf{l:List aU}(hs:Sl h N v (strs l))(hl:l.length<100000)(qA:∀s∈l,s.length<=100000):Fn A.C 23 [v] h N (fun u _ _=>u=.int .i64 (sJ l)):=by
 intro w
 have hlen:=hs.len
 rw[BL]at hlen
 rw[aV,A.k23 (by simp)]
 unfold sJ
 by_cases c1:64<l.length
 ·have c1':64<(l.length:Int):=by omega
  rw[aQ c1]
  simp(disch:=first|(simp;done)|omega|rfl) [-getElem?_pos,A.b23,hlen,c1,c1',aF]
  exact ae.refl
 ·have c1':¬64<(l.length:Int):=by omega
  rw[aA c1]
  simp(disch:=first|(simp;done)|omega|rfl) [-getElem?_pos,A.b23,hlen,c1,c1']
  refine az (Ygr hs hl fun s h=>by have:=qA s h;omega) ?_
  rintro _ h1 n1 k1 rfl
  simp(disch:=first|(simp;done)|omega|rfl) [-getElem?_pos,aF,BM]
  exact k1
structure RnH (g l p:aU) (D:Int) (d:List aU):Prop where
 lg:g.length<=40
 ll:l.length<=40
 lp:p.length<=40
 ld:d.length<100000
 fd:∀s∈d,s.length<=64
 q:ki g l p D=0->Qb 40 (bJ g)/\Qb 40 (bJ l)/\Qb 40 (bJ p)
 s:sJ d=0->d.length<=12
def A.b62:=A.q Tryz.f62
def A.k62:=@A.kk 62 31 [.tmp 4] A.b62 (by kernel_rfl) rfl
def A.w9:=A.q Tryz.f9
def A.ze:=A.ql A.w9 0 []
def A.b9:=(fun x0=>A.qb A.w9 [x0]) A.ze
def A.k9:=@A.kk 9 25 [.tmp 6] A.b9 (by kernel_rfl) rfl
def NP(q:Rat)(d:Nat):Bool:=decide ((av q.num.natAbs).length<=d)&&decide ((av q.den).length<=d)
def uK(s:aU)(d:Nat):Bool:=decide (s.length<=2*d+2)&&(decide (aY s=0)&&NP (bJ s) d)
def pD(l:List aU)(n d:Nat):Bool:=decide (l.length<=n)&&l.all fun s=>uK s d
def Zsm(q:Rat):(aR q.num).length<=(ax q).length:=by
 unfold ax
 split<;>simp
def Ym4{h:T O}{N d:Nat}{s:aU}(hd:d<=100):Fn A.C 62 [.str s,.int .i64 (d:Nat)] h N (fun u _ _=>u=.bool (uK s d)):=by
 intro w
 rw[aV,A.k62 (by simp)]
 by_cases c1:s.length<=2*d+2
 ·have c1':(s.length:Int)<=2*(d:Int)+2:=by omega
  simp(disch:=first|(simp;done)|omega|rfl) [-getElem?_pos,A.b62,c1']
  refine az (Yaj (s:=s) (by omega)) ?_
  rintro _ h1 n1 k1 rfl
  by_cases c2:aY s=0
  ·have et:=(BN c2).1
   obtain⟨q,hq⟩:∃q,bJ s=q:=⟨_,rfl⟩
   rw[hq]at et
   have hl:(ax q).length<1000000000:=by rw[et];omega
   have e1:=fun st=>Yjo (q:=q) (st:=st) hl
   have e2:=fun st=>Yk3 (q:=q) (st:=st) hl
   rw[et]at e1 e2
   have yb:(aR q.num).length<1000000000:=by
    have:=Zsm q
    rw[et]at this
    omega
   have e3:=fun st=>Ylk (z:=q.num) (st:=st) yb
   by_cases c3:(av q.num.natAbs).length<=d
   ·have c3':((av q.num.natAbs).length:Int)<=(d:Int):=by omega
    by_cases c4:(av q.den).length<=d
    ·have c4':((av q.den).length:Int)<=(d:Int):=by omega
     simp(disch:=first|(simp;done)|omega|rfl) [-getElem?_pos,c2,aL,e1,e2,e3,c3',c4',aF]
     exact⟨k1,by simp[uK,NP,c1,c2,hq,c3,c4]⟩
    ·have c4':¬((av q.den).length:Int)<=(d:Int):=by omega
     simp(disch:=first|(simp;done)|omega|rfl) [-getElem?_pos,c2,aL,e1,e2,e3,c3',c4',aF]
     exact⟨k1,by simp[uK,NP,c1,c2,hq,c3,c4]⟩
   ·have c3':¬((av q.num.natAbs).length:Int)<=(d:Int):=by omega
    simp(disch:=first|(simp;done)|omega|rfl) [-getElem?_pos,c2,aL,e1,e2,e3,c3',aF]
    exact⟨k1,by simp[uK,NP,c1,c2,hq,c3]⟩
  ·have c2':¬((aY s:Nat):Int)=0:=by omega
   simp(disch:=first|(simp;done)|omega|rfl) [-getElem?_pos,c2,c2',aL,aF]
   exact⟨k1,by simp[uK,c2]⟩
 ·have c1':¬(s.length:Int)<=2*(d:Int)+2:=by omega
  simp(disch:=first|(simp;done)|omega|rfl) [-getElem?_pos,A.b62,c1',aF]
  exact⟨ae.refl,by simp[uK,c1]⟩
def Zua{h:T O}{N d n:Nat}{v:V}{l:List aU}(hs:Sl h N v (strs l))(hl:l.length<9223372036854775808)(hd:d<=100)(hn:n<=1000):Fn A.C 9 [v,.int .i64 (n:Nat),.int .i64 (d:Nat)] h N (fun u _ _=>u=.bool (pD l n d)):=by
 intro w
 have hlen:=hs.len
 rw[BL]at hlen
 rw[aV,A.k9 (by simp)]
 by_cases c0:l.length<=n
 ·have c0':¬(n:Int)<(l.length:Int):=by omega
  have e0:pD l n d=l.all fun s=>uK s d:=by simp[pD,c0]
  rw[e0]
  simp(disch:=first|(simp;done)|omega|rfl) [-getElem?_pos,A.b9,hlen,c0']
  refine c_ [(6,7),(12,24)] (fun e r st=>aD N st.w=[]/\ae h N st.h st.n/\((e=.exit 0/\(l.all fun s=>uK s d)=true)\/(e=.ret/\(l.all fun s=>uK s d)=false/\r.get 6=some (.bool false)))) (fun m r st=>aD N st.w=[]/\ae h N st.h st.n/\∃k,k+m=l.length/\r.get 7=some (.int .i64 k)/\(l.all fun s=>uK s d)=((l.drop k).all fun s=>uK s d)) l.length ?_ ?_ ?_
  ·exact⟨by simp,ae.refl,0,by omega,by simp,by simp⟩
  ·rintro m r ⟨H,n1,W⟩ hr hf ⟨hW,hK,k,hk,h7,hz⟩
   simp only at hW hK
   rw[dk]
   cases m with
   |zero=>
    obtain rfl:k=l.length:=by omega
    rw[vR,List.all_nil]at hz
    simp(disch:=first|(simp;done)|omega|rfl) [-getElem?_pos,A.ze,hr,hf,h7,hlen,hW,hK]
    simpa using hz
   |succ m=>
    have aP:k<l.length:=by omega
    have dE:(k:Int)<(l.length:Int):=by omega
    obtain⟨s,hsk⟩:=fz aP
    obtain⟨i,o,cc,e,rw,q1,q2,q3,q4⟩:=(hs.ah hK).at (Lc hsk)
    rw[qk hsk,List.all_cons]at hz
    simp(disch:=first|(simp;done)|omega|rfl) [-getElem?_pos,A.ze,hr,hf,h7,hlen,aP,dE,q1,q2,q3,q4]
    refine az (Ym4 (s:=s) hd) ?_
    rintro _ h3 n3 k3 rfl
    have kk:=hK.trans k3
    cases yc:uK s d with
    |true=>
     rw[yc,Bool.true_and]at hz
     simp(disch:=first|(simp;done)|omega|rfl) [-getElem?_pos,hr,hf,h7,hW]
     exact⟨m,by omega,kk,k+1,by omega,by simp,by simpa using hz⟩
    |false=>
     rw[yc,Bool.false_and]at hz
     simp(disch:=first|(simp;done)|omega|rfl) [-getElem?_pos,hr,hf,h7,hW]
     exact⟨kk,by simpa using hz⟩
  ·rintro e r ⟨H,n1,W⟩ hr ⟨hW,hK,⟨rfl,hz⟩|⟨rfl,hz,h6⟩⟩
   ·simp only at hW hK
    simp(disch:=first|(simp;done)|omega|rfl) [-getElem?_pos,hr,aF,hW,hK]
    simpa using hz
   ·simp only at hW hK
    simp(disch:=first|(simp;done)|omega|rfl) [-getElem?_pos,hr,h6,aF,hW,hK]
    simpa using hz
 ·have c0':(n:Int)<(l.length:Int):=by omega
  simp(disch:=first|(simp;done)|omega|rfl) [-getElem?_pos,A.b9,hlen,c0',aF]
  exact⟨ae.refl,by simp[pD,c0]⟩
def A.b8:=A.q Tryz.f8
def A.k8:=@A.kk 8 31 [.tmp 6] A.b8 (by kernel_rfl) rfl
def Zyr{g l p:aU}{D:Int}{n dd:Nat}{h:T O}{N:Nat}(hg:g.length<=40)(hl:l.length<=40)(hp:p.length<=40)(hd:dd<=100)(hn:n<=1000):Fn A.C 8 [.agg [.str g,.str l,.str p,.int .i64 D],.int .i64 (dd:Nat),.int .i64 (n:Nat)] h N (fun u _ _=>u=.bool (decide (ki g l p D=0)&&(pD [g,l,p] 3 dd&&decide (D<=(n:Int))))):=by
 intro w
 have kB:ae h N (h.set N (.cells [.str g,.str l,.str p,.int .i64 D] 26 true)) (N+1):=ae.refl.new _
 have b0:(h.set N (.cells [.str g,.str l,.str p,.int .i64 D] 26 true)).get N=some (.cells [.str g,.str l,.str p,.int .i64 D] 26 true):=by simp
 rw[aV,A.k8 (by simp)]
 simp(disch:=first|(simp;done)|omega|rfl) [-getElem?_pos,A.b8,aJ,aE]
 generalize h.set N (.cells [.str g,.str l,.str p,.int .i64 D] 26 true)=HB at*
 refine az (Zu3 (by omega) (by omega) (by omega)) ?_
 rintro _ h1 n1 k1 rfl
 have uw:=k1.le
 have b1:=(k1.get N (by omega)).trans b0
 have l1:N<n1:=by omega
 simp(disch:=first|(simp;done)|omega|rfl) [-getElem?_pos,hg,hl,hp,b1,l1,aJ,aE]
 refine az (Yja (by omega) (by omega) (by omega)) ?_
 rintro _ h2 n2 k2 rfl
 have oP:=k2.le
 have b2:=(k2.get N (by omega)).trans b1
 have l2:N<n2:=by omega
 by_cases c:ki g l p D=0
 ·have kS:ae h2 n2 (h2.set n2 (.cells [.str g,.str l,.str p] 22 true)) (n2+1):=ae.refl.new _
  have sl3:Sl (h2.set n2 (.cells [.str g,.str l,.str p] 22 true)) (n2+1) (.slice n2 0 3 (some 3) 1) (strs [g,l,p]):=Sl.row (e:=22) (rw:=true) (cp:=some 3) (by omega) (by simp[strs]) rfl (by simp)
  have b3:=(kS.get N (by omega)).trans b2
  simp(disch:=first|(simp;done)|omega|rfl) [-getElem?_pos,c,aL,b2,l2,ag]
  have fl:=Zua (d:=dd) (n:=3) sl3 (by simp) hd (by decide)
  refine az fl ?_
  rintro _ h3 n3 k3 rfl
  have xX:=k3.le
  have b4:=(k3.get N (by omega)).trans b3
  have l3:N<n3:=by omega
  by_cases c2:pD [g,l,p] 3 dd=true
  ·simp(disch:=first|(simp;done)|omega|rfl) [-getElem?_pos,c2,b4,l3,aF]
   exact((kB.trans k1).trans k2).trans (kS.trans k3)
  ·have c2':pD [g,l,p] 3 dd=false:=by simpa using c2
   simp(disch:=first|(simp;done)|omega|rfl) [-getElem?_pos,c2',b4,l3,aF]
   exact((kB.trans k1).trans k2).trans (kS.trans k3)
 ·simp(disch:=first|(simp;done)|omega|rfl) [-getElem?_pos,c,aL,aF]
  exact(kB.trans k1).trans k2
end
end Go.Mx
