/-reconstruct-/
import Derived.Test.YtlfdeoomaccciaaGreatDoorCrA
set_option linter.all false
namespace Go.Mx
noncomputable section
open Go Go.Proofs
set_option maxHeartbeats 2000000
set_option maxRecDepth 1000000
def Yph{h:T O}{N B P Cb c j0 k0:Nat}{r:T V}{u wv:V}{m:List (List Rat)}{qF:List Rat}{e e2:TypeId}{w:List Nat}{IP:Bool}(hu:gh h N u m)(hBh:h.get B=some (.cells [.aa] 70 true))(UJ:B<N)(hP:h.get P=some (.cells [wv] e2 IP))(UK:P<N)(hPB:¬P=B)(hC:h.get Cb=some (.cells [u] e true))(hCN:Cb<N)(hCB:¬Cb=B)(gV:0<m.length)(kg:m.length<1000)(hc:b_ m c)(fQ:0<c)(cO:c<1000)(hw:ec h N wv qF)(Ez:qF.length=m.length)(qa:cW m j0)(qb:∀q∈qF,Qb k0 q)(yr:1<=j0)(hj:j0<=400000000)(qH:k0<=400000000)(h5:r.get 5=some (.ptr B 0))(h3:r.get 3=some (.ptr P 0))(hww:av B w=[]):
  Call A.C (.func 168 [] [.ptr Cb 0]) [.yield (N+1)] ⟨(h.set N (.defs true)).set (N+1) (.loop (wR r N)),N+1+1,w⟩ (fun _ st=>av B st.w=[]/\N+2<=st.n/\(∀i,i<N->¬i=B->st.h.get i=h.get i)/\st.h.get N=some (.defs true)/\∃R v,st.h.get (N+1)=some (.loop R)/\R.st=.ready/\R.eW=none/\st.h.get B=some (.cells [v] 70 true)/\iI (N+2) st.h st.n v (yG m qF c)):=by
 have gD:((h.set N (.defs true)).set (N+1) (.loop (wR r N))).get N=some (.defs true):=by rw[T.ag,ak (by omega),T.ag,ay rfl]
 have gL:((h.set N (.defs true)).set (N+1) (.loop (wR r N))).get (N+1)=some (.loop (wR r N)):=by rw[T.ag,ay rfl]
 have kG:ab h N ((h.set N (.defs true)).set (N+1) (.loop (wR r N))) (N+2):=(ab.refl.new _).new _
 generalize (h.set N (.defs true)).set (N+1) (.loop (wR r N))=G at*
 have gC:=(kG.get Cb hCN).trans hC
 have gB:=(kG.get B UJ).trans hBh
 have yo:=hu.ae kG
 obtain⟨us,a1,a2,a3⟩:=yo
 obtain⟨l0,gX⟩:=bh gV
 obtain⟨x0,b1,b2⟩:=a3 0 l0 gX
 obtain⟨i2,o2,cc2,e3,rw3,p1,p2,p3,p4⟩:=a1.at b1
 rw[mP]at p4
 have b3:=b2.1.len
 rw[hc l0 (bU gX)]at b3
 have lu:=a1.len
 rw[a2]at lu
 have ye:(0:Int)<(m.length:Int):=by omega
 have lC:Cb<N+1+1:=by omega
 have lp2:i2<N+1+1:=by omega
 rw[aN,A.k168 (by simp)]
 simp[A.b168,gC,lC,lp2,lu,gV,ye,p1,p3,p4,b3]
 refine bG [(3,3),(8,18)] (fun e r' st=>e=.exit 0/\av B st.w=[]/\dG (DU N B) G (N+2) st.h st.n/\st.h.get (N+1)=some (.loop (wR r N))/\∃v,st.h.get B=some (.cells [v] 70 true)/\iI (N+2) st.h st.n v (yG m qF c)) (fun i r' st=>av B st.w=[]/\dG (DU N B) G (N+2) st.h st.n/\st.h.get (N+1)=some (.loop (wR r N))/\∃k v,k<=c/\i=c-k/\r'.get 8=some (.int .i64 k)/\st.h.get B=some (.cells [v] 70 true)/\iI (N+2) st.h st.n v (yG m qF k)) c ?_ ?_ ?_
 ·exact⟨by simp,dG.refl,gL,0,_,by omega,by omega,by simp,gB,iI.nil⟩
 ·rintro i r' ⟨H1,n1,W⟩ hr hf ⟨hW,U1,Kk,k,v,hk,rfl,h8,AU,hO⟩
  simp only at hW U1 Kk AU hO
  rw[bk]
  by_cases ax:k<c
  ·have a_:(k:Int)<(c:Int):=by omega
   have xy:=U1.le
   have gC1:=(U1.get Cb (by omega) (by unfold DU;omega)).trans gC
   have gP1:=(U1.get P (by omega) (by unfold DU;omega)).trans ((kG.get P UK).trans hP)
   have lC1:Cb<n1:=by omega
   have UB:dG (fun i=>i=B) h N H1 n1:=⟨by omega,fun i hi hd=>(U1.get i (by omega) (by unfold DU;omega)).trans (kG.get i hi)⟩
   have fm:=hu.uS (v:=u) UB hBh (by decide) gV fun l hl=>by rw[hc l hl];exact fQ
   have Ba:=hw.uS UB hBh (by decide)
   simp[A.rA,hr,hf,h8,ax,a_,gC1,lC1]
   refine aB (Zx4 fm (by omega) hc ax) ?_
   rintro x H2 n2 k2 hx
   have kK:=k2.le
   have lcl:(jy m k).length=m.length:=by simp[jy]
   simp[hr,hf]
   refine Ag (Ylu ((k2.get (N+1) (by omega)).trans Kk) ((k2.get B (by omega)).trans AU) ((k2.get P (by omega)).trans gP1) (hO.ae k2) (by omega) UJ UK hx (Ba.ae k2) (by omega) (by rw[lcl,Ez]) (by omega) (fun q hq=>(IK qa yr _ (by unfold eE;exact List.mem_map_of_mem (zq.2 ax))).2 q hq) qb hj qH h5 h3 hW) ?_
   rintro _ ⟨H3,n3,W3⟩ ⟨rfl,BR,U3,Ks,v',zu,EZ⟩
   simp only at BR U3 Ks zu EZ
   simp(disch:=first|(simp;done)|omega|rfl) [hr,hf,h8,BR,Ks,zu]
   exact⟨c-(k+1),by omega,(U1.trans k2.upd).trans U3,k+1,by omega,rfl,by simp,EZ⟩
  ·obtain rfl:k=c:=by omega
   simp[A.rA,hr,hf,h8,hW,U1,Kk,AU]
   exact hO
 ·rintro _ r' ⟨H1,n1,W⟩ hr ⟨rfl,hW,U1,Kk,v,AU,hO⟩
  simp only at hW U1 Kk AU hO
  simp[hr]
  refine⟨ui fun i hi=>?_,U1.le,fun i hi hd=>(U1.get i (by omega) (by unfold DU;omega)).trans (kG.get i hi),(U1.get N (by omega) (by unfold DU;omega)).trans gD,wR r N,Kk,rfl,rfl,v,AU,hO⟩
  rcases kh.1 hi with hi|hi
  ·exact yI hW i (yJ hi).1
  ·exact yI hww i hi
def Zue{h:T O}{N c j0 k0:Nat}{u v:V}{m:List (List Rat)}{qF:List Rat}(hu:gh h N u m)(hv:ec h N v qF)(gV:0<m.length)(kg:m.length<1000)(hc:b_ m c)(fQ:0<c)(cO:c<1000)(Ez:qF.length=m.length)(qa:cW m j0)(qb:∀q∈qF,Qb k0 q)(yr:1<=j0)(hj:j0<=400000000)(qH:k0<=400000000):Fn A.C 41 [u,v] h N (fun x h' n'=>gh h' n' x ((eE m c).map fun r=>yH r qF)):=by
 intro w
 obtain⟨f1,f2,f3⟩:=hv.1.form
 rw[aN,A.k41 (by simp)]
 simp[-V.cells, -V.one,A.b41,f1,f2]
 have kP:ab h N (h.set N (.cells [v] 73 true)) (N+1):=ab.refl.new _
 have gP:(h.set N (.cells [v] 73 true)).get N=some (.cells [v] 73 true):=by rw[T.ag,ay rfl]
 have kB:ab (h.set N (.cells [v] 73 true)) (N+1) ((h.set N (.cells [v] 73 true)).set (N+1) (.cells [.aa] 70 true)) (N+1+1):=ab.refl.new _
 have gB:((h.set N (.cells [v] 73 true)).set (N+1) (.cells [.aa] 70 true)).get (N+1)=some (.cells [.aa] 70 true):=by rw[T.ag,ay rfl]
 have PU:=(kB.get N (by omega)).trans gP
 have kk:=kP.trans kB
 generalize (h.set N (.cells [v] 73 true)).set (N+1) (.cells [.aa] 70 true)=G at*
 have ov:V.one u=true/\V.cells u=[u]:=by
  obtain⟨us,s,_⟩:=hu
  exact⟨Sl.qN s,Sl.fK s⟩
 refine aB (Yjs ov.1 ov.2) ?_
 rintro _ H3 n3 k3 ⟨e,rfl,c1,c2⟩
 have yM:=k3.le
 have zu:=(k3.get (N+1) (by omega)).trans gB
 have gP3:=(k3.get N (by omega)).trans PU
 simp[]
 refine Zyy (gv:=.func 168 [] [.ptr (N+1+1) 0]) (by simp) rfl (Yph (B:=N+1) (P:=N) (c:=c) ((hu.ae kk).ae k3) zu (by omega) gP3 (by omega) (by omega) c2 c1 (by omega) gV kg hc fQ cO ((hv.ae kk).ae k3) Ez qa qb yr hj qH (by simp) (by simp) (by simp[ui])) ?_
 rintro _ ⟨H4,n4,W4⟩ ⟨BS,FW,U4,So,R,v',gL4,r1,r2,Fq,hO4⟩
 simp only at BS FW U4 So gL4 Fq hO4
 refine⟨R,gL4,by rw[r1];simp,?_⟩
 have nc:FJ (.loop R):=fun c e w h=>by cases h
 have o5:=hO4.pE (o:=.loop {R with st:=.exhausted}) gL4 nc
 have gD5:(H4.set (n3+1) (.loop {R with st:=.exhausted})).get n3=some (.defs true):=by rw[T.ag,ak (by omega)];exact So
 have gB5:(H4.set (n3+1) (.loop {R with st:=.exhausted})).get (N+1)=some (.cells [v'] 70 true):=by rw[T.ag,ak (by omega)];exact Fq
 have k5:∀i,i<N->(H4.set (n3+1) (.loop {R with st:=.exhausted})).get i=h.get i:=fun i hi=>by
  rw[T.ag,ak (by omega),U4 i (by omega) (by omega),k3.get i (by omega),kk.get i hi]
 show bA A.C _ (some (.ex (Mm R.eW) _ ⟨H4.set (n3+1) (.loop {R with st:=.exhausted}),n4,(n3+1)::W4⟩)) _
 generalize H4.set (n3+1) (.loop {R with st:=.exhausted})=F at*
 rw[r2]
 have lB:N+1<n4:=by omega
 have nd:FJ (.defs true):=fun c e w h=>by cases h
 simp[gB5,lB,Mm]
 refine(Yi2 gD5 fun i=>by simp).2 ?_
 simp[aA]
 rw[<-Yqk Ez]
 exact⟨by rw[ak (by omega),ak (by omega)];exact PG BS (by omega),⟨by omega,fun i hi=>by rw[T.ag,ak (by omega)];exact k5 i hi⟩,(o5.pE gD5 nd).DL⟩
variable {G X:List (List Rat)} {N n:Nat} {h:T O}
set_option maxHeartbeats 4000000
def A.w46:=A.q Tryz.f46
def A.wy:=A.ql A.w46 0 []
def A.b46:=(fun x0=>A.qb A.w46 [x0]) A.wy
def A.k46:=@A.kk 46 53 [.tmp 4,.tmp 5] A.b46 (by kernel_rfl) rfl
def Zpi{st az:St}{z:Nat}{i o:Nat}{cp:Option Nat}{s:Nat}{v':V}{x y:Option V}(e:mS st z (some (.slice i o n cp s)) (some x) (some y) (some none)=some (v',az)):∀j∈bZ v',j=i:=by
 unfold mS qe at e
 simp only[ES,Src.ev]at e
 cases cp<;>simp only at e<;>repeat' split at e
 all_goals first
  |cases e;done
  |(simp only[aq,bs]at e;obtain⟨rfl,_⟩:=e;simp[bZ])
def ec.drop{v:V}{l:List Rat}{w:List Nat}(hu:ec h N v l)(hn:n<=l.length)(h0:0<l.length):∃v',mS ⟨h,N,w⟩ 4 (some v) (some (some (.int .i64 n))) (some none) (some none)=some (v',⟨h,N,w⟩)/\ec h N v' (l.drop n):=by
 obtain⟨⟨cs,h1,h2,h3⟩,h4⟩:=hu
 obtain⟨v',e1,e2⟩:=Zsg (w:=w) (by decide) h1 (lo:=n) (hi:=cs.length) (by omega) (aQ _) (some (.int .i64 n)) none (.inl rfl) (.inr ⟨rfl,rfl⟩)
 rw[eZ (aQ _)]at e2
 refine⟨v',e1,⟨cs.drop n,e2,by simp[h2],fun j q hq=>?_⟩,fun i hi=>?_⟩
 ·rw[fg]at hq ⊢
  exact h3 _ q hq
 ·rcases h1 with⟨hc,_⟩|⟨i',o,cp,c,e,pn,rfl,_⟩
  ·rw[hc]at h2
   simp at h2
   omega
  ·have:=Zpi e1 i hi
   exact h4 i (by simp[bZ,this])
def Yqw{P:Nat}{u:V}{l:List Rat}{e:TypeId}{rw:Bool}(hp:h.get P=some (.cells [.int .i64 n] e rw))(hP:P<N)(hu:ec h N u l)(hn:n<=l.length)(h0:0<l.length):jg A.C (.func 126 [] [.ptr P 0]) [u] h N (fun x h' n'=>ec h' n' x (l.drop n)):=by
 intro w
 obtain⟨v',e1,e2⟩:=ec.drop (w:=[]) hu hn h0
 rw[aN,A.k126 (by simp)]
 simp[A.b126,hp,hP,Bh,e1,aA]
 exact⟨ab.refl,e2⟩
def Ybg{k:Nat}(h:k<G.length):(dc G X)[k]?=some (G[k]?.getD []++X[k]?.getD []):=by simp[dc,h]
def Ybf{K:Nat}(hG:cW G K)(hX:cW X K):cW (dc G X) K:=fun r hr q hq=>by
 obtain⟨i,hi,rfl⟩:=fv.1 hr
 rcases kh.1 hq with h|h
 ·exact hG.at q h
 ·exact hX.at q h
def Ybz{c:Nat}{B:Nat->Nat}{u v:V}(hu:gh h N u G)(hv:gh h N v X)(hG:b_ G n)(hX:b_ X c)(hl:G.length=n)(hx:X.length=n)(h0:0<n)(hn:n<100)(fQ:0<c)(hc:c<100)(yd:∀i,1<=B i)(hKq:∀k,cW (aU (dc G X) k).1 (B (aU (dc G X) k).2.1))(hB:∀i,i<n->3*B i<=400000000):Fn A.C 46 [u,v] h N (fun x h' n'=>(sU G X n c=none/\x=.aV [.aa,.bool false])\/∃H y,sU G X n c=some H/\x=.aV [y,.bool true]/\gh h' n' y H):=by
 intro w
 have lu:=hu.len
 have kB0:ab h N ((h.set N (.cells [.int .i64 0] 3 true)).set N (.cells [.int .i64 n] 3 true)) (N+1):=(ab.refl.new _).set (aQ _)
 have gB0:((h.set N (.cells [.int .i64 0] 3 true)).set N (.cells [.int .i64 n] 3 true)).get N=some (.cells [.int .i64 n] 3 true):=by rw[T.ag,ay rfl]
 rw[aN,A.k46 (by simp)]
 simp[A.b46,lu,hl,bD,ad]
 generalize (h.set N (.cells [.int .i64 0] 3 true)).set N (.cells [.int .i64 n] 3 true)=G0 at*
 have lO:=hu.ae kB0
 have my:=hv.ae kB0
 have lW:∀t,t<=n->((dc G X).take t).length=t:=fun t ht=>by rw[gG,vg];omega
 refine bG [(7,8),(14,30)] (fun e r st=>e=.exit 0/\av N st.w=[]/\ab G0 (N+1) st.h st.n/\∃v,r.get 7=some v/\iI (N+1) st.h st.n v (dc G X)) (fun i r st=>av N st.w=[]/\ab G0 (N+1) st.h st.n/\∃k v,k+i=n/\r.get 14=some (.int .i64 (k:Nat))/\r.get 7=some v/\iI (N+1) st.h st.n v ((dc G X).take k)) n ?_ ?_ ?_
 ·exact⟨by simp,ab.refl,0,_,by omega,by simp,by simp,iI.nil⟩
 ·rintro i r ⟨H,m,W⟩ hr hf ⟨hW,hK,k,y,hk,oQ,h7,hO⟩
  simp only at hW hK hO
  rw[bk]
  have lm:=hK.le
  cases i with
  |zero=>
   obtain rfl:k=n:=by omega
   rw[eZ (by rw[vg];omega)]at hO
   simp[A.wy,hr,hf,oQ,h7,hW,hK]
   exact hO
  |succ i=>
   have ax:k<n:=by omega
   have a_:(k:Int)<(n:Int):=by omega
   obtain⟨ga,Iv⟩:=bh (l:=G) (k:=k) (by omega)
   obtain⟨xa,hxa⟩:=bh (l:=X) (k:=k) (by omega)
   have Ss:=hG ga (bU Iv)
   have lxa:=hX xa (bU hxa)
   obtain⟨i1,o1,c1,e1,w1,a,q1,q2,q3,q4,q5⟩:=PY (lO.ae hK) Iv
   have lv:=hv.len
   rw[hx]at lv
   simp[A.wy,hr,hf,oQ,h7,ax,a_,lu,hl,q1,q2,q3,q4]
   refine aB (Yfh q5.1 (by omega) (by omega)) ?_
   rintro z H2 n2 k2 hz
   have kK:=k2.le
   obtain⟨i3,o3,c3,e3,w3,b,p1,p2,p3,p4,p5⟩:=PY ((my.ae hK).ae k2) hxa
   obtain⟨v1,h1,w1',j1,j2,j3,j4⟩:=Iw.many (w:=[]) hz p5.1 (by omega) (by omega) (by omega)
   simp[-V.cells, -V.one,hr,hf,oQ,h7,lv,p1,p2,p3,p4,wU,j1,ax,a_]
   have ft:=j4.QT
   obtain⟨f1,f2,f3⟩:=ft.1.form
   have k3:ab H m h1 (n2+1):=k2.then j3
   have kD:ab h1 (n2+1) (h1.set (n2+1) (.cells [v1] 73 true)) (n2+1+1):=ab.refl.new _
   have qI:ad [V.aa] 0 [v1]=[v1]:=rfl
   obtain⟨v',h',w',s1,s2,s3,s4⟩:=iI.push (N0:=N+1) (x:=.slice (n2+1) 0 1 (some 1) 1) (w:=[]) ((hO.ae k3).ae kD) (ft.ae kD) (by omega) (by simp[eA,St.row,aD]) (by rw[lW k (by omega)];omega)
   simp(disch:=first|(simp;done)|omega|rfl) [-V.cells, -V.one,hr,hf,oQ,h7,f1,f2,qI,wU,s1]
   refine⟨i,by omega,ui fun j hj=>?_,((hK.trans k3).trans kD).then s3,k+1,by omega,by simp,?_⟩
   ·rcases kh.1 hj with hj|hj
    ·have:=yI (s2.trans rfl) j (yJ hj).1
     omega
    ·rcases kh.1 hj with hj|hj
     ·have:=yI (j2.trans rfl) j (yJ hj).1
      omega
     ·exact yI hW j hj
   ·rw[uC,Ybg (by omega),Iv,hxa]
    exact s4
 ·rintro _ r ⟨H,m,W⟩ hr ⟨rfl,hW,hK,y,h7,hO⟩
  simp only at hW hK hO
  have lm:=hK.le
  have I:=A5 (yK hG hX (by omega)) (n:=n+c)
  have iw:=(pQ (yK hG hX (by omega)) (n:=n+c)).2
  rw[vg,hl]at iw
  simp[hr,h7]
  refine aB (Yas hO.DL (yK hG hX (by omega)) (by rw[vg];omega) (by rw[vg];omega) (by omega) yd hKq fun i hi _=>hB i (by rw[vg]at hi;omega)) ?_
  rintro _ H2 n2 k2 ⟨rv,pv,rfl,Da,u9⟩
  have kK:=k2.le
  have uy:=u9.sl
  have iH:=uy.len
  rw[ib]at iH
  have OZ:(zN (aU (dc G X) (n+c)).2.2).length=(aU (dc G X) (n+c)).2.1:=by simp[zN,I.len]
  rw[OZ]at iH
  have gN:=(k2.get N (by omega)).trans ((hK.get N (by omega)).trans gB0)
  have hNn:N<n2:=by omega
  have kk:=(kB0.trans (hK.trans k2))
  by_cases c1:(aU (dc G X) (n+c)).2.1<n
  ·have c1':((aU (dc G X) (n+c)).2.1:Int)<(n:Int):=by omega
   have hs:sU G X n c=none:=by unfold sU;rw[ay (.inl c1)]
   simp[hr,iH,gN,hNn,c1,c1',aA,hW,ct.cv]
   exact⟨kk,hs⟩
  ·have hd:(aU (dc G X) (n+c)).2.1=n:=by omega
   rw[hd]at iH OZ
   obtain⟨p,hp⟩:=bh (l:=(aU (dc G X) (n+c)).2.2) (k:=n-1) (by have:=I.len;omega)
   obtain⟨i3,o3,c3,e3,w3,p1,p2,p3,p4⟩:=uy.at (j:=n-1) (x:=.int .i64 p) (by simp[dI,zN,hp])
   have xy:(n:Int)-1=((n-1:Nat):Int):=by omega
   have ff:((n-1:Nat):Int)<(n:Int):=by omega
   have M4:n-1<n:=by omega
   have cnn:¬(n:Int)<(n:Int):=by omega
   by_cases c2:p=n-1
   ·subst c2
    have hs:sU G X n c=some ((qP (dc G X) (n+c)).map (List.drop n)):=by
     unfold sU
     rw[ak]
     rw[hd,hp]
     simp
    have rl:∀r∈qP (dc G X) (n+c),r.length=n+c:=PD (yK hG hX (by omega))
    simp(disch:=first|(simp;done)|omega|rfl) [hr,iH,gN,hNn,hd,cnn,xy,ff,M4,p1,p2,p3,p4,ct.cv,aE]
    refine aB (Yn1 (List.drop n) Da (by rw[Kt (yK hG hX (by omega)),hd];omega) fun l jj u' h' n' k' mU=>Yqw ((k'.get N (by omega)).trans gN) (by have:=k'.le;omega) mU (by rw[rl l jj];omega) (by rw[rl l jj];omega)) ?_
    rintro z H3 n3 k3 hz
    simp[hr,aA,hW]
    exact⟨kk.trans k3,_,hs,hz⟩
   ·have c2':¬(p:Int)=((n-1:Nat):Int):=by omega
    have hs:sU G X n c=none:=by
     unfold sU
     rw[ay (.inr (by rw[hp];exact c2))]
    simp(disch:=first|(simp;done)|omega|rfl) [hr,iH,gN,hNn,hd,cnn,xy,ff,M4,p1,p2,p3,p4,c2,c2',aA,hW,ct.cv,aE]
    exact⟨kk,hs⟩
set_option maxHeartbeats 2000000
set_option maxHeartbeats 1000000
def A.w47:=A.q Tryz.f47
def A.wz:=A.ql A.w47 0 []
def A.b47:=(fun x0=>A.qb A.w47 [x0]) A.wz
def A.k47:=@A.kk 47 29 [.tmp 2,.tmp 3] A.b47 (by kernel_rfl) rfl
def Yhh{h:T O}{N k:Nat}{u:V}{m:List (List Rat)}(hu:gh h N u m)(hP:l_ h N)(hl:m.length<10000)(hr:∀r∈m,r.length<1000000000)(hq:cW m k)(hk:k<=400000000):Fn A.C 47 [u] h N (fun x h' n'=>(mD m=true/\x=.aV [.aa,.int .i64 4])\/(mD m=false/\∃v,x=.aV [v,.int .i64 0]/\gj h' n' v m)):=by
 intro w
 have l1:=hu.len
 rw[aN,A.k47 (by simp)]
 simp[A.b47,l1]
 refine bG [(2,4),(6,8),(11,27)] (fun e r st=>av N st.w=[]/\ab h N st.h st.n/\((e=.exit 0/\mD m=false/\∃v,r.get 4=some v/\gT N st.h st.n v m)\/(e=.ret/\mD m=true/\r.get 2=some .aa/\r.get 3=some (.int .i64 4)))) (fun i r st=>av N st.w=[]/\ab h N st.h st.n/\∃t v,t+i=m.length/\r.get 11=some (.int .i64 t)/\mD m=mD (m.drop t)/\r.get 4=some v/\gT N st.h st.n v (m.take t)) m.length ?_ ?_ ?_
 ·exact⟨by simp,ab.refl,0,_,by omega,by simp,by simp,by simp,gT.nil⟩
 ·rintro i r ⟨H,n,W⟩ ef hf ⟨hW,hK,t,v,ht,ku,hz,h4,hO⟩
  simp only at hW hK hO
  rw[bk]
  have le:=hK.le
  cases i with
  |zero=>
   obtain rfl:t=m.length:=by omega
   rw[pg]at hz
   rw[eZ (aQ _)]at hO
   have ve:mD m=false:=by rw[hz];rfl
   simp[A.wz,ef,hf,ku,h4,ve,hW,hK]
   exact hO
  |succ i=>
   have ax:t<m.length:=by omega
   have a_:(t:Int)<(m.length:Int):=by omega
   obtain⟨row,al⟩:=bh ax
   have hm:=bU al
   obtain⟨i1,o1,x1,e1,w1,c,p1,p2,p3,p4,p5⟩:=PY (hu.ae hK) al
   rw[lH al]at hz
   simp[A.wz,ef,hf,ku,h4,ax,a_,l1,p1,p2,p3,p4]
   refine aB (Ygk p5.1 (hP.ae hK) (hr row hm) (hq row hm) hk) ?_
   rintro _ H3 n3 k3 (⟨hb,rfl⟩|⟨hb,x,rfl,tx⟩)
   ·have ve:mD m=true:=by rw[hz];simp[mD,hb]
    simp[ef,hf,aE,hW,ve]
    exact hK.trans k3
   ·have ve:mD m=mD (m.drop (t+1)):=by rw[hz];simp[mD,hb]
    have ox:V.one x=true/\V.cells x=[x]:=⟨Sl.qN tx.1,Sl.fK tx.1⟩
    have yM:=k3.le
    have kD:ab H3 n3 (H3.set n3 (.cells [x] 23 true)) (n3+1):=ab.refl.new _
    have qI:ad [V.aa] 0 [x]=[x]:=rfl
    obtain⟨v',h',w',j1,j2,j3,j4⟩:=gT.push (N0:=N) (x:=.slice n3 0 1 (some 1) 1) (w:=W) ((hO.ae k3).ae kD) (tQ.ae tx kD) (by omega) (by simp[eA,St.row,aD]) (by rw[gG];omega)
    have kF:ab h N h' (n3+1+1):=((hK.trans k3).trans kD).then j3
    simp(disch:=first|(simp;done)|omega|rfl) [-V.cells, -V.one,ef,hf,ku,h4,aE,hW,ve,ox.1,ox.2,qI,wU,j1]
    exact⟨i,by omega,by rw[j2];exact hW,kF,t+1,by omega,by simp,rfl,by rw[uC,al];exact j4⟩
 ·rintro e r ⟨H,n,W⟩ ef ⟨hW,hK,⟨rfl,hz,v,h4,hO⟩|⟨rfl,hz,h2,h3⟩⟩
  ·simp only at hW hK hO
   simp[ef,h4,aA,hW,hK,hz]
   exact hO.ya
  ·simp only at hW hK
   simp[ef,h2,h3,aA,hW,hK,hz]
variable {a b:Nat}
set_option maxHeartbeats 2000000
def Zp4{k:Nat}(h:nW k a=true)(fU:a<=b):nW k b=true:=by
 unfold nW at*
 have:=of_decide_eq_true h
 exact decide_eq_true (by omega)
def Zne{l:List aM}(h:fW a l=true)(fU:a<=b):fW b l=true:=by
 unfold fW at*
 rw[iy]at*
 exact⟨Zp4 h.1 fU,h.2⟩
def Zus{m:List (List aM)}{c d:Nat}(h:pR a b m=true)(hac:a<=c)(Fi:b<=d):pR c d m=true:=by
 unfold pR at*
 rw[iy]at*
 exact⟨Zp4 h.1 hac,l7.2 fun x hx=>Zne (l7.1 h.2 x hx) Fi⟩
structure Ywm (b:List (List aM)) (n:Nat):Prop where
 pos:0<b.length
 le:b.length<=4
 row:∀r∈b,r.length=n/\wV r
def Yqu{G X H:List (List Rat)}{n c Z:Nat}{B:Nat->Nat}(hG:b_ G n)(hX:b_ X c)(hl:G.length<=X.length)(UP:∀k,cW (aU (dc G X) k).1 (B (aU (dc G X) k).2.1))(hZ:∀i,i<=n->B i<=Z)(hn:G.length<=n)(hs:sU G X n c=some H):cW H Z/\H.length<=n/\b_ H c:=by
 have hW:=yK hG hX hl
 unfold sU at hs
 split at hs
 ·cases hs
 ·obtain rfl:=pc hs
  have hd:=(pQ hW (n:=n+c)).2
  rw[vg]at hd
  refine⟨fun r lG q hq=>?_,by rw[je,Kt hW];omega,fun r lG=>?_⟩
  ·obtain⟨z,hz,rfl⟩:=fv.1 lG
   exact(UP (n+c) z (yL hz) q (IL hq)).mono (hZ _ (by omega))
  ·obtain⟨z,hz,rfl⟩:=fv.1 lG
   rw[x_,PD hW z hz]
   omega
set_option maxHeartbeats 1000000
def A.w53:=A.q Tryz.f53
def A.wA:=A.ql A.w53 0 []
def A.b53:=(fun x0=>A.qb A.w53 [x0]) A.wA
def A.k53:=@A.kk 53 26 [.tmp 4] A.b53 (by kernel_rfl) rfl
def Ygn{A C:List (List Rat)}{t:Nat}{r:List Rat}(h:A[t]?=some r):dH (A.take (t+1)) C=dH (A.take t) C++[C.map fun c=>mm c r]:=by
 unfold dH
 rw[uC,h]
 simp
def Zpq{h:T O}{N c j k:Nat}{u v:V}{A' B:List (List Rat)}(hu:gj h N u A')(hv:gj h N v B)(hA:∀r∈A',B.length<=r.length)(hB:b_ B c)(lS:0<B.length)(XH:A'.length<1000)(Mw:B.length<1000)(hc:c<1000)(qA:cW A' k)(qB:cW B j)(hj:1<=j)(hk:1<=k)(hl:B.length*(j+k+1)+j+k+1<=400000000):Fn A.C 53 [u,v] h N (fun x h' n'=>∃b,N<=b/\gT b h' n' x (dH A' (eE B c))):=by
 intro w
 have lu:=hu.len
 rw[aN,A.k53 (by simp)]
 simp(disch:=first|(simp;done)|omega|rfl) [-getElem?_pos,A.b53]
 refine aB (Zwt hv hB Mw hc lS) ?_
 rintro y H1 n1 k1 hy
 have uT:=k1.le
 have hy:=hy.ya
 simp(disch:=first|(simp;done)|omega|rfl) [-getElem?_pos,]
 refine bG [(5,5),(7,7),(10,24)] (fun e r st=>e=.exit 0/\av n1 st.w=[]/\ab H1 n1 st.h st.n/\∃x,r.get 5=some x/\gT n1 st.h st.n x (dH A' (eE B c))) (fun i r st=>av n1 st.w=[]/\ab H1 n1 st.h st.n/\∃t x,t+i=A'.length/\r.get 7=some (.int .i64 t)/\r.get 5=some x/\gT n1 st.h st.n x (dH (A'.take t) (eE B c))) A'.length ?_ ?_ ?_
 ·exact⟨by simp[ui],ab.refl,0,.aa,by omega,by simp,by simp,gT.nil⟩
 ·rintro i r ⟨H,m,W⟩ hr hf ⟨hW,hK,t,x,ht,h7,h5,hO⟩
  simp only at hW hK hO
  rw[bk]
  have le:=hK.le
  cases i with
  |zero=>
   obtain rfl:t=A'.length:=by omega
   rw[eZ (aQ _)]at hO
   simp(disch:=first|(simp;done)|omega|rfl) [-getElem?_pos,A.wA,hr,hf,h7,h5,lu,hW,hK]
   exact hO
  |succ i=>
   have ax:t<A'.length:=by omega
   have a_:(t:Int)<(A'.length:Int):=by omega
   obtain⟨row,al⟩:=bh ax
   have vP:=bU al
   obtain⟨i',o,cc,e,rw,ru,q1,q2,q3,q4,q5⟩:=(hu.ae (k1.trans hK)).at al
   simp(disch:=first|(simp;done)|omega|rfl) [-getElem?_pos,A.wA,hr,hf,h7,h5,lu,ax,a_,q1,q2,q3,q4]
   refine aB (Ycn (n:=B.length) (hy.ae hK) q5 (IK qB hj) (hA row vP) (qA row vP) hj hk hl (by rw[FN];omega)) ?_
   rintro z H2 n2 k2 hz
   have fr:=F5 hz
   have kK:=k2.le
   obtain⟨f1,f2⟩:V.one z=true/\V.cells z=[z]:=⟨Sl.qN fr.1,Sl.fK fr.1⟩
   have qI:ad [V.aa] 0 [z]=[z]:=rfl
   have kD:ab H2 n2 (H2.set n2 (.cells [z] 23 true)) (n2+1):=ab.refl.new _
   obtain⟨v',h',w',j1,j2,j3,j4⟩:=gT.push (N0:=n1) (x:=.slice n2 0 1 (some 1) 1) (w:=W) ((hO.ae k2).ae kD) (fr.ae kD) (by omega) (by simp[eA,St.row,aD]) (by rw[PA,gG];omega)
   simp(disch:=first|(simp;done)|omega|rfl) [-getElem?_pos, -V.cells, -V.one,hr,hf,h7,h5,qI,f1,f2,wU,j1,j2,hW]
   exact⟨i,by omega,((hK.trans k2).trans kD).then j3,t+1,by omega,by simp,by rw[Ygn al];exact j4⟩
 ·rintro _ r ⟨H,m,W⟩ hr ⟨rfl,hW,hK,x,h5,hO⟩
  simp only at hW hK hO
  simp(disch:=first|(simp;done)|omega|rfl) [-getElem?_pos,hr,h5,aA]
  exact⟨PG hW uT,k1.trans hK,n1,uT,hO⟩
def Ycd{h:T O}{N c j k:Nat}{u v:V}{A' B:List (List Rat)}(hu:gj h N u A')(hv:gj h N v B)(hA:∀r∈A',B.length<=r.length)(hB:b_ B c)(lS:0<B.length)(XH:A'.length<1000)(Mw:B.length<1000)(hc:c<1000)(qA:cW A' k)(qB:cW B j)(hj:1<=j)(hk:1<=k)(hl:B.length*(j+k+1)+j+k+1<=400000000):Fn A.C 53 [u,v] h N (fun x h' n'=>gj h' n' x (dH A' (eE B c))):=fun w=>(Zpq hu hv hA hB lS XH Mw hc qA qB hj hk hl w).mono fun x st ⟨a,b,_,_,t⟩=>⟨a,b,t.ya⟩
def O0{N i:Nat}:∀{w:List Nat},i∈w->i<N->i∈av N w
 |[],h,_=>by cases h
 |j::w,h,hi=>by
  simp only[av]
  rcases kv.1 h with rfl|h
  ·rw[ay hi]
   unfold vD
   split
   ·simp_all
   ·exact nR
  ·split
   ·unfold vD
    split
    ·exact O0 h hi
    ·exact nS _ (O0 h hi)
   ·exact O0 h hi
def Yhz{N B:Nat}{w w':List Nat}(h:av N w'=av N w)(hw:av B w=[])(hB:B<=N):av B w'=[]:=ui fun i hi=>by
 by_cases e:i<N
 ·have:=O0 hi e
  rw[h]at this
  exact yI hw i (yJ this).1
 ·omega
variable {N n:Nat} {h:T O} {u:V}
set_option maxHeartbeats 4000000
def A.w55:=A.q Tryz.f55
def A.si:=A.ql A.w55 1 []
def A.sq:=A.ql A.w55 0 []
def A.b55:=(fun x0 x1=>A.qb A.w55 [x0,x1]) A.sq A.si
def A.k55:=@A.kk 55 61 [.tmp 2,.tmp 3] A.b55 (by kernel_rfl) rfl
def Ybl{t:Nat}(h:t<n):((List.range n).map fun _=>(0:Rat)).set t (((1:Int):Rat))=yW n t:=by
 unfold yW
 apply List.ext_getElem (by simp)
 intro i h1 h2
 simp only[sQ,je,List.length_range]at h1
 by_cases e:i=t
 ·subst e
  simp
 ·rw[List.getElem_set_ne (Ne.symm e)]
  simp[e]
def Yfs{H:T O}{l:List V}{w:List Nat}(hs:Sl H n u l)(h0:0<l.length)(hl:l.length<100000):gJ ⟨H.set n (.cells [] 24 true),n+1,w⟩ 1 16 24 (.slice n 0 0 (some 0) 1) u=some (.slice (n+1) 0 l.length none 1,⟨(H.set n (.cells [] 24 true)).set (n+1) (.cells l 24 true),n+1+1,w⟩):=by
 have kN:ab H n (H.set n (.cells [] 24 true)) (n+1):=ab.refl.new _
 have l8:=IQ (w:=w) ((Sn.one.2 hs).ae kN)
 rw[je,DI]at l8
 have hg:(H.set n (.cells [] 24 true)).get n=some (.cells [] 24 true):=by simp
 have aW:l.length≠0:=by omega
 simp only[gJ,l8,uk,St.row,hg,aD,St.alloc]
 simp[aW]
 omega
def Yhr{N0:Nat}{v:V}{a b:List Rat}{w:List Nat}(s:Own 1 24 N0 h N v ((tx a).map fun y=>[y]))(ha:0<a.length)(hu:Tx h N u b)(h0:0<b.length)(hN:N0<=N)(hl:a.length+b.length<100000):
  ∃v' h' w',gJ ⟨h,N,w⟩ 1 16 24 v u=some (v',⟨h',N+1,w'⟩)/\av N0 w'=av N0 w/\ab h N0 h' (N+1)/\tQ h' (N+1) v' (a++b):=by
 have la:((tx a).map fun y=>[y]).length=a.length:=by rw[je,kM]
 have lb:((tx b).map fun y=>[y]).length=b.length:=by rw[je,kM]
 obtain⟨v',h',w',f1,f2,f3,_,_,f5⟩:=UR (Y:=fun _=>True) (xs:=(tx b).map fun y=>[y]) (u:=u) (bytes:=16) (w:=w) s (fun hc=>by rw[hc]at la;simp at la;omega) (fun _ _ _ _=>trivial) hN (by decide) (fun x hx=>by obtain⟨y,_,rfl⟩:=fv.1 hx;rfl) (by rw[lb];exact h0) (by
  have:=IQ (w:=w) (Sn.one.2 hu)
  exact this) (by rw[la,lb];omega)
 refine⟨v',h',w',f1,f2,f3,F5 (N0:=N0) ?_⟩
 rw[<-List.map_append]at f5
 have:tx (a++b)=tx a++tx b:=by simp[tx,strs]
 rw[this]
 exact f5
def Yir{H0:T O}{G:List (List Rat)}{W0:List Nat}{r0:T V}(hu:gj H0 N u G)(hG:b_ G n)(hl:G.length=n)(h0:0<n)(hn:n<100)(yQ:av N W0=[])(a0:r0.get 0=some u)(a4:r0.get 4=some (.int .i64 n))(a5:r0.get 5=some .aa)(a6:r0.get 6=some (.int .i64 0)):
  Code A.C none (.loop A.sq) ⟨r0,61,[]⟩ ⟨H0,N,W0⟩ (fun e fr st=>e=.exit 0/\av N st.w=[]/\ab H0 N st.h st.n/\∃r v,Fx [(5,7),(12,32)] r0 61 ⟨r,61,[]⟩/\fr=⟨r,61,[]⟩/\r.get 5=some v/\gT N st.h st.n v (dc G (gg n))):=by
 rw[bk]
 have lW:∀t,t<=n->((dc G (gg n)).take t).length=t:=fun t ht=>by rw[gG,vg];omega
 refine bG [(5,7),(12,32)] (fun e r st=>e=.exit 0/\av N st.w=[]/\ab H0 N st.h st.n/\∃v,r.get 5=some v/\gT N st.h st.n v (dc G (gg n))) (fun i r st=>av N st.w=[]/\ab H0 N st.h st.n/\∃t v,t+i=n/\r.get 6=some (.int .i64 t)/\r.get 5=some v/\gT N st.h st.n v ((dc G (gg n)).take t)) n ?_ ?_ ?_
 ·exact⟨yQ,ab.refl,0,.aa,by omega,a6,a5,gT.nil⟩
 ·rintro i r ⟨H,m,W⟩ hr hf ⟨hW,hK,t,v,ht,h6,h5,hO⟩
  simp only at hW hK hO
  rw[bk]
  have lm:=hK.le
  cases i with
  |zero=>
   obtain rfl:t=n:=by omega
   rw[eZ (by rw[vg];omega)]at hO
   simp[A.sq,hr,hf,a4,h6,h5,hW,hK]
   exact hO
  |succ i=>
   have ax:t<n:=by omega
   have a_:(t:Int)<(n:Int):=by omega
   obtain⟨ga,Iv⟩:=bh (l:=G) (k:=t) (by omega)
   have Ss:=hG ga (bU Iv)
   simp[A.sq,hr,hf,a0,a4,h6,h5,ax,a_]
   refine aB (Yb8 h0 (by omega)) ?_
   rintro _ H2 n2 k2 ⟨R,rfl,hR,s2⟩
   have kK:=k2.le
   have lR:=s2.lt
   have gR:=s2.get
   have t1:aR ((1:Int):Rat)=[49]:=PR
   obtain⟨y1,y2⟩:=s2.put (j:=t) (q:=((1:Int):Rat)) (by simp;exact ax)
   rw[t1,Ybl ax]at y1
   rw[Ybl ax]at y2
   have J9:t+1<=(tx ((List.range n).map fun _=>(0:Rat))).length:=by rw[kM];simp;omega
   generalize tx ((List.range n).map fun _=>(0:Rat))=X at*
   have kG:ab H m (H2.set R (.cells (tx (yW n t)) 24 true)) n2:=k2.set hR
   obtain⟨i1,o1,c1,e1,w1,x,q1,q2,q3,q4,q5⟩:=(hu.ae (hK.trans kG)).at Iv
   have lu:=hu.len
   rw[hl]at lu
   have lq:i1<n2:=by omega
   have d0:¬i1=n2:=by omega
   have lx:(tx ga).length=n:=by rw[kM,Ss]
   have lu2:(yW n t).length=n:=Ybm
   generalize hG1:H2.set R (.cells (tx (yW n t)) 24 true)=G1 at*
   have ha1:=Yfs (w:=R::W) q5 (by rw[lx];exact h0) (by rw[lx];omega)
   rw[lx]at ha1
   have kE:ab G1 n2 ((G1.set n2 (.cells [] 24 true)).set (n2+1) (.cells (tx ga) 24 true)) (n2+1+1):=(ab.refl.new _).new _
   have oE:Own 1 24 (n2+1) ((G1.set n2 (.cells [] 24 true)).set (n2+1) (.cells (tx ga) 24 true)) (n2+1+1) (.slice (n2+1) 0 n none 1) ((tx ga).map fun y=>[y]):=⟨fun y hy=>by obtain⟨z,_,rfl⟩:=fv.1 hy;rfl,.inr ⟨n2+1,by rw[je,lx],by omega,by omega,by rw[T.ag,ay rfl,DI]⟩⟩
   have y3:=y2.Hm.1.ae kE
   generalize hE:(G1.set n2 (.cells [] 24 true)).set (n2+1) (.cells (tx ga) 24 true)=E at*
   rw[lu2]at y3
   obtain⟨z,h3,w3,j1,j2,j3,j4⟩:=Yhr (w:=R::W) oE (by rw[Ss];exact h0) y3 (by rw[lu2];exact h0) (by omega) (by rw[Ss,lu2];omega)
   have k3:ab H m h3 (n2+1+1+1):=⟨by have:=kG.le;omega,fun i hi=>(j3.get i (by have:=kG.le;omega)).trans ((kG.trans kE).get i hi)⟩
   obtain⟨f1,f2⟩:V.one z=true/\V.cells z=[z]:=⟨Sl.qN j4.1,Sl.fK j4.1⟩
   have qI:ad [V.aa] 0 [z]=[z]:=rfl
   have kD:ab h3 (n2+1+1+1) (h3.set (n2+1+1+1) (.cells [z] 23 true)) (n2+1+1+1+1):=ab.refl.new _
   obtain⟨v',h',w',p1,p2,p3,p4⟩:=gT.push (N0:=N) (x:=.slice (n2+1+1+1) 0 1 (some 1) 1) (w:=w3) ((hO.ae k3).ae kD) (j4.ae kD) (by omega) (by simp[eA,St.row,aD]) (by rw[lW t (by omega)];omega)
   have hw3:av N w3=[]:=ui fun i hi=>by
    by_cases e:i<n2+1
    ·have:=O0 hi e
     rw[j2]at this
     rcases kv.1 (yJ this).1 with rfl|h
     ·omega
     ·exact yI hW i h
    ·omega
   simp[hr,hf,a0,a4,h6,h5,ax,a_,bD,gR,lR,J9,y1,lu,q1,q3,q4,d0,hG1]
   simp(disch:=first|(simp;done)|omega|rfl) [-V.cells, -V.one,hr,hf,h6,h5,hE,wU,ha1,j1,p1,f1,f2,qI]
   refine⟨i,by omega,by rw[p2];exact hw3,((hK.trans k3).trans kD).then p3,t+1,by omega,by simp,?_⟩
   rw[uC,Ybg (by omega),Iv,Yru ax]
   exact p4
 ·rintro _ r ⟨H,m,W⟩ hr ⟨rfl,hW,hK,v,h5,hO⟩
  simp only at hW hK hO
  simp[]
  exact⟨hW,hK,r,⟨hr,rfl,rfl⟩,rfl,v,h5,hO⟩
def Sl.low{M:Nat}{v:V}{l:List V}(s:Sl h N v l)(hm:∀i∈bZ v,i<M):Sl h M v l:=by
 rcases s with s|⟨i,o,cp,c,e,rw,rfl,_,q⟩
 ·exact .inl s
 ·exact .inr ⟨i,o,cp,c,e,rw,rfl,hm i (by simp[bZ]),q⟩
def Ymt{B:Nat->Nat}{G:List (List Rat)}(hu:gj h N u G)(hG:b_ G n)(hl:G.length=n)(h0:0<n)(hn:n<100)(yd:∀i,1<=B i)(hKq:∀k,cW (aU (dc G (gg n)) k).1 (B (aU (dc G (gg n)) k).2.1))(hB:∀i,i<n->3*B i<=400000000):Fn A.C 55 [u] h N (fun x h' n'=>(x9 G n=none/\x=.aV [.aa,.bool false])\/∃H y,x9 G n=some H/\x=.aV [y,.bool true]/\gj h' n' y H):=by
 intro w
 have lu:=hu.len
 have hW:=yK hG (PB (n:=n)) (by rw[PC,hl];exact aQ _)
 have I:=A5 hW (n:=n+n)
 have hle:=(pQ hW (n:=n+n)).2
 rw[vg,hl]at hle
 have qJ:=Kt (n:=n+n) hW
 rw[aN,A.k55 (by simp)]
 simp[A.b55,lu,hl]
 refine mi (Yir hu hG hl h0 hn (by simp[ui]) (by simp) (by simp) (by simp) (by simp)) ?_
 rintro _ _ ⟨H1,n1,W1⟩ ⟨rfl,Ew,k1,r,v,f1,rfl,h5,hO⟩
 simp only at Ew k1 hO
 have jr:=f1.dP
 have uT:=k1.le
 simp[jr,h5]
 refine aB (Zy0 (c:=n+n) hO.ya hW (by rw[vg];omega) (by rw[vg];omega) (by omega) yd hKq fun i hi _=>hB i (by rw[vg]at hi;omega)) ?_
 rintro x2 H2 n2 k2 yE
 have kK:=k2.le
 have lx:=yE.len
 rw[qJ]at lx
 by_cases c1:(aU (dc G (gg n)) (n+n)).2.1<n
 ·have c1':((aU (dc G (gg n)) (n+n)).2.1:Int)<(n:Int):=by omega
  have hs:x9 G n=none:=by unfold x9;rw[ak (fun h=>by omega)]
  simp[jr,lx,c1,c1',aA,Ew,ct.cv]
  exact⟨k1.trans k2,hs⟩
 ·have hd:(aU (dc G (gg n)) (n+n)).2.1=n:=by omega
  rw[hd]at lx qJ
  have hm:((qP (dc G (gg n)) (n+n)).map (List.drop n)).length=n:=by rw[je,qJ]
  simp[jr,lx,hd,show ¬n<n from Nat.lt_irrefl n,show ¬(n:Int)<(n:Int) by omega]
  refine bG [(2,3),(8,9),(39,59)] (fun e r st=>av N st.w=[]/\ab H2 n2 st.h st.n/\((e=.exit 2/\(∀i,i<n->(aU (dc G (gg n)) (n+n)).2.2[i]?.getD 0=i)/\∃v,r.get 8=some v/\xO n2 st.h st.n v ((qP (dc G (gg n)) (n+n)).map (List.drop n)))\/(e=.ret/\(∃i,i<n/\(aU (dc G (gg n)) (n+n)).2.2[i]?.getD 0≠i)/\r.get 2=some .aa/\r.get 3=some (.bool false)))) (fun i r st=>av N st.w=[]/\ab H2 n2 st.h st.n/\∃t v,t+i=n/\r.get 9=some (.int .i64 t)/\r.get 8=some v/\xO n2 st.h st.n v (((qP (dc G (gg n)) (n+n)).map (List.drop n)).take t)/\∀i,i<t->(aU (dc G (gg n)) (n+n)).2.2[i]?.getD 0=i) n ?_ ?_ ?_
  ·exact⟨by simpa using Ew,ab.refl,0,.aa,by omega,by simp,by simp,xO.nil,fun i hi=>absurd hi (Nat.not_lt_zero i)⟩
  ·rintro i r' ⟨H,m,W⟩ lG zw ⟨rK,hK,t,v2,ht,h9,h8,hR,hp⟩
   simp only at rK hK hR
   rw[bk]
   have lm:=hK.le
   cases i with
   |zero=>
    obtain rfl:t=n:=by omega
    rw[eZ (by rw[hm];exact aQ _)]at hR
    simp[A.si,lG,zw,h9,h8,jr,rK,hK]
    exact⟨hp,hR⟩
   |succ i=>
    have ax:t<n:=by omega
    have a_:(t:Int)<(n:Int):=by omega
    obtain⟨row,al⟩:=bh (l:=qP (dc G (gg n)) (n+n)) (k:=t) (by omega)
    obtain⟨p,WD,hpc,hpf,_⟩:=Ymw hW al
    have Dx:=PD hW row (bU al)
    obtain⟨i0,o0,c0,e0,w0,x0,z1,z2,z3,z4,z5⟩:=yE.at al
    obtain⟨i1,o1,cc,e1,w1,x,q1,q2,q3,q4,q5⟩:=(yE.ae hK).at al
    have u9:=fun w=>Yhl (w:=w) q5 (by omega)
    rw[hpf]at u9
    have nX:(aU (dc G (gg n)) (n+n)).2.2[t]?.getD 0=p:=by rw[WD];rfl
    by_cases cp:p=t
    ·subst cp
     have hxx:x0=x:=by
      rw[q1]at z1
      simp only[aq,bs]at z1
      obtain⟨rfl,rfl⟩:=z1
      have:=(hK.get i1 z2).trans z3
      rw[q3]at this
      simp only[aq,O.cells.injEq]at this
      obtain⟨rfl,_⟩:=this
      rw[q4]at z4
      exact(pc z4).symm
     subst hxx
     obtain⟨s',e1',Su⟩:=DS (w:=W) q5 (lo:=n) (hi:=n+n) (by omega) (by rw[kM,Dx];exact aQ _) (some (.int .i64 n)) none (.inl rfl) (.inr ⟨rfl,by rw[kM,Dx]⟩)
     have etx:((tx row).take (n+n)).drop n=tx (row.drop n):=by
      rw[eZ (by rw[kM,Dx];exact aQ _)]
      simp[tx,strs,List.map_drop]
     rw[etx]at Su
     have lo2:Sl H n2 s' (tx (row.drop n)):=Su.low fun j hj=>by
      rcases z5 with⟨hc,_⟩|⟨i',o',cp',c',e',pn,rfl,iK,_⟩
      ·have:=congrArg List.length hc
       rw[kM,Dx]at this
       simp at this
       omega
      ·rw[Zpi e1' j hj]
       exact iK
     obtain⟨zD,RS⟩:V.one s'=true/\V.cells s'=[s']:=⟨Sl.qN Su,Sl.fK Su⟩
     have qI:ad [V.aa] 0 [s']=[s']:=rfl
     have kD:ab H m (H.set m (.cells [s'] 23 true)) (m+1):=ab.refl.new _
     have kD2:ab H n2 (H.set m (.cells [s'] 23 true)) n2:=⟨aQ _,fun j hj=>by rw[T.ag,ak (by omega)]⟩
     have KS:(((qP (dc G (gg n)) (n+n)).map (List.drop n)).take p).length<100000:=by rw[gG,hm];omega
     obtain⟨v',h',w',p1,p2,p3,p4⟩:=xO.push (N0:=n2) (x:=.slice m 0 1 (some 1) 1) (w:=W) (hR.ae kD (by omega)) (lo2.ae kD2) (by omega) (by simp[eA,St.row,aD]) KS
     simp(disch:=first|(simp;done)|omega|rfl) [-V.cells, -V.one,A.si,lG,zw,h9,h8,jr,ax,a_,lx,q1,q2,q3,q4,u9,aE,Bh,e1',zD,RS,qI,wU,p1]
     refine⟨i,by omega,Yhz p2 rK (by omega),(hK.trans kD).then p3,p+1,by omega,by simp,?_,fun j hj=>?_⟩
     ·rw[uC,fV,al]
      exact p4
     ·by_cases e:j=p
      ·subst e;exact nX
      ·exact hp j (by omega)
    ·have cp':¬(p:Int)=(t:Int):=by omega
     simp[A.si,lG,zw,h9,h8,jr,ax,a_,lx,q1,q2,q3,q4,u9,aE,cp,cp',rK,hK]
     exact⟨t,ax,by rw[nX];exact cp⟩
  ·rintro _ r' ⟨H,m,W⟩ lG ⟨rK,hK,⟨rfl,hp,v2,h8,hR⟩|⟨rfl,⟨i,hi,PW⟩,h2,h3⟩⟩
   ·simp only at rK hK hR
    have hs:x9 G n=some ((qP (dc G (gg n)) (n+n)).map (List.drop n)):=by unfold x9;rw[ay ⟨hd,hp⟩]
    simp[lG,jr,h8,aA,ct.cv]
    exact⟨rK,(k1.trans k2).trans hK,_,hs,hR.ya hK.le⟩
   ·simp only at rK hK
    have hs:x9 G n=none:=by unfold x9;rw[ak (fun h=>PW (h.2 i hi))]
    simp[lG,jr,h2,h3,aA,ct.cv]
    exact⟨rK,(k1.trans k2).trans hK,hs⟩
end
end Go.Mx
