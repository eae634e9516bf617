/-loop-/
import Derived.Test.YtdlikflhcjmkeaaGreatDoorLqD
set_option linter.all false
set_option maxHeartbeats 2000000
namespace Go.Mx
noncomputable section
open Go Go.Proofs
variable {N i:Nat} {h:T O} {o:O}
set_option maxRecDepth 1000000
def A.ta44_0:Zaz:=.reg [ge 10 (.alloc [.int .i64 0,.nilslice,.int .i64 0,.nilslice] 102),gn (.store 4 (tq 10) (tq 27))]
def A.ta44_1:Zaz:=.block 1 (.regD [lN 28 4 8,lN 29 4 7,c2 30 70 28 29,lN 31 4 10,c2 32 74 30 31,gn (.store 4 (tq 8) (tq 32))] [0,0,3,0,15,31])
def A.b44:Zaz:=sr [ge 4 (.mov (.const (.str []))),mc 5 0]
 (.seq (sr [mv 11 0,c1 12 42 11,mv 13 1,c1 14 112 13,ge 15 (.bslice 26 1 2 [.int .i64 0,.int .i64 0] [(0,1,(tq 12)),(1,1,(tq 14))]),c1 16 99 15,mv 6 16]
 (sr [mv 17 6,ni 18 17 0]
 (cd 18
 (sr [mv 19 6,ge 4 (.mov (.const (.str []))),mv 5 19]
 (.ret))
 (.skip))))
 (sr [mv 20 1,c1 21 102 20,ge 22 (.call (fq 65) [.const (.int .i64 0)]),ge 7 (.alloc [.int .i64 0,.nilslice,.int .i64 0,.nilslice] 102),ge 8 (.alloc [.int .i64 0,.nilslice,.int .i64 0,.nilslice] 102),gn (.store 4 (tq 7) (tq 21)),gn (.store 4 (tq 8) (tq 22))]
 (.seq (sr [mv 23 0,c1 24 61 23,c1 25 113 24]
 (.block 0 (.rangef (tq 25) [26,27] A.ta44_0 A.ta44_1)))
 (sr [lN 33 4 8,c1 34 82 33,xt 35 34 0,xt 36 34 1,mv 4 35,mv 5 36]
 (.ret)))))
def A.k44:=@A.kk 44 37 [.tmp 4,.tmp 5] A.b44 (by kernel_rfl) rfl
def A.b113:=A.q Tryz.f113
def A.k113:=@A.kk 113 4 [.tmp 2] A.b113 (by kernel_rfl) rfl
def A.w178:=A.q Tryz.f178
def A.lb178_0:=A.ql A.w178 0 []
def A.b178:=(fun x0=>A.qb A.w178 [x0]) A.lb178_0
def A.k178:=@A.kk 178 18 [] A.b178 (by kernel_rfl) rfl
def Sl.setL{v:V}{l:List V}{L:Ymk}(s:Sl h N v l)(g:h.get i=some (.loop L)):Sl (h.set i o) N v l:=s.moved (D:=fun j=>j=i) ⟨Yqg _,fun j _ hj=>by rw[T.get_set,Yqe hj]⟩ fun j hj hc=>by
 subst hc
 rcases s with⟨_,rfl|rfl⟩|⟨j',o',cp,c,e,rw,rfl,_,h3,_⟩
 ·simp[Zhk]at hj
 ·simp[Zhk]at hj
 ·simp[Zhk]at hj
  subst hj
  rw[g]at h3
  cases h3
def FcC.setL{c:List V}{q:Rat}{L:Ymk}(s:FcC h N c q)(g:h.get i=some (.loop L)):FcC (h.set i o) N c q:=by
 have hI:∀{x:V} {z:Int},In h N x z→In (h.set i o) N x z:=fun s=>by
  rcases s with s|⟨i,o,l,c,s1,s2,s3⟩
  ·exact .inl s
  ·exact .inr ⟨i,o,l,c,s1,Sl.setL s2 g,s3⟩
 obtain⟨n1,u1,n2,u2,rfl,s1,s2⟩:=s
 exact⟨n1,u1,n2,u2,rfl,hI s1,hI s2⟩
def Yu6{n:Nat}{w:List Nat}(h:Zac n w=[])(hN:N≤n):Zac N w=[]:=Zo5 fun i hi=>by
 have:=Yge h i hi
 omega
def RwQ.setL{R m:Nat}{l:List Rat}{L:Ymk}(s:RwQ h N R l m)(g:h.get i=some (.loop L)):RwQ (h.set i o) N R l m:=by
 obtain⟨cs,g1,g2,g3⟩:=s.ex
 have hne:¬R=i:=fun hc=>by rw[hc,g]at g1;cases g1
 refine⟨s.lt,cs,by rw[T.get_set,Yqe hne];exact g1,g2,fun j q hq=>?_⟩
 obtain⟨c,a,b⟩:=g3 j q hq
 exact⟨c,a,b.setL g⟩
def DW(N B i:Nat):Prop:=i=N+1∨i=B∨N+2≤i
def vR(r:T V)(d:Nat):Ymk:=Yvp r 37 [26,27] A.ta44_0 A.ta44_1 d
def Yvx{H:T O}{n M B C k d Rp j:Nat}{r:T V}{c cs ca:List V}{s x q:Rat}{p:List Rat}{W:List Nat}(hL:H.get (N+1)=some (.loop (vR r d)))(hB:H.get B=some (.cells cs 102 true))(fB:FcC H n cs s)(hA:H.get C=some (.cells ca 102 true))(fA:FcC H n ca x)(hc:FcC H n c q)(hp:RwQ H n Rp p 0)(hn:N+2≤n)(hMB:M≤B)(hBN:B<N)(hCN:C<N)(hBC:¬C=B)(hRB:¬B=Rp)(h8:r.get 8=some (.ptr B 0))(h7:r.get 7=some (.ptr C 0))(bs:Qb j s)(bx:Qb 164 x)(bq:Qb 164 q)(hj:j≤100000)(hW:Zac M W=[]):Call A.C (.yield (N+1)) [.int .i64 k,.agg c] ⟨H,n,W⟩ (fun y st=>y=.bool true∧Zac M st.w=[]∧Upd (DW N B) H n st.h st.n∧st.h.get (N+1)=some (.loop (vR r d))∧∃cs',st.h.get B=some (.cells cs' 102 true)∧FcC st.h st.n cs' (s*x+q)∧FcC st.h st.n ca x∧RwQ st.h st.n Rp p 0):=by
 obtain⟨c1,c2⟩:=hc.len
 obtain⟨s1,s2⟩:=fB.len
 obtain⟨a1,a2⟩:=fA.len
 have hcc:∀c:List V,(V.agg c).cells=c:=fun _=>rfl
 have e4:=Yuq (d:=zF) c1 rfl
 unfold zF at e4
 have kA:Keeps H n ((H.set n (.cells [.int .i64 0,.nilslice,.int .i64 0,.nilslice] 102 true)).set n (.cells c 102 true)) (n+1):=(Keeps.refl.new _).set (Yqg _)
 have gA:((H.set n (.cells [.int .i64 0,.nilslice,.int .i64 0,.nilslice] 102 true)).set n (.cells c 102 true)).get n=some (.cells c 102 true):=by simp
 refine Yvc (R:=vR r d) (r0:=(r.set 26 (.int .i64 k)).set 27 (.agg c)) rfl hL rfl (by simp[vR,Yvp,Zl8]) ?_
 rw[Zai]
 show Run A.C [] (exR (A.C.code (some (N+1)) A.ta44_0 ⟨_,37,[]⟩ ⟨H,n,W⟩)) _
 simp(disch:=first|(simp;done)|omega|rfl) [-getElem?_pos, -V.cells, -V.one,A.ta44_0,hcc,c1,c2,Zal,e4]
 have lN1:¬N+1=n:=by omega
 have gL:=(kA.get (N+1) (by omega)).trans hL
 have gB:=(kA.get B (by omega)).trans hB
 have gC:=(kA.get C (by omega)).trans hA
 have fB1:=fB.keep kA
 have fA1:=fA.keep kA
 have fc1:=hc.keep kA
 have hp1:=hp.keep kA
 have UA:Upd (DW N B) H n ((H.set n (.cells [.int .i64 0,.nilslice,.int .i64 0,.nilslice] 102 true)).set n (.cells c 102 true)) (n+1):=kA.upd
 refine⟨by rw[Yqe lN1,Yqe lN1];exact hL,?_⟩
 rw[Zai]
 generalize (H.set n (.cells [.int .i64 0,.nilslice,.int .i64 0,.nilslice] 102 true)).set n (.cells c 102 true)=HA at*
 show Run A.C [] (exR (A.C.code (some (N+1)) A.ta44_1 ⟨_,37,[]⟩ ⟨HA.set (N+1) (.loop {vR r d with st:=.busy}),_,_⟩)) _
 have fB2:=fB1.setL (o:=.loop {vR r d with st:=.busy}) gL
 have fA2:=fA1.setL (o:=.loop {vR r d with st:=.busy}) gL
 have fc2:=fc1.setL (o:=.loop {vR r d with st:=.busy}) gL
 have hp2:=hp1.setL (o:=.loop {vR r d with st:=.busy}) gL
 have U2:Upd (DW N B) H n (HA.set (N+1) (.loop {vR r d with st:=.busy})) (n+1):=UA.set (.inl (.inl rfl))
 have gL2:(HA.set (N+1) (.loop {vR r d with st:=.busy})).get (N+1)=some (.loop {vR r d with st:=.busy}):=by rw[T.get_set,Yqi rfl]
 have gB2:(HA.set (N+1) (.loop {vR r d with st:=.busy})).get B=some (.cells cs 102 true):=by rw[T.get_set,Yqe (by omega)];exact gB
 have gC2:(HA.set (N+1) (.loop {vR r d with st:=.busy})).get C=some (.cells ca 102 true):=by rw[T.get_set,Yqe (by omega)];exact gC
 have gA2:(HA.set (N+1) (.loop {vR r d with st:=.busy})).get n=some (.cells c 102 true):=by rw[T.get_set,Yqe (by omega)];exact gA
 generalize HA.set (N+1) (.loop {vR r d with st:=.busy})=G at*
 have lB:B<n+1:=by omega
 have lC:C<n+1:=by omega
 have t1:=Yuu s1
 have t2:=Yuu a1
 have t3:=Yuu c1
 have ws:=bs.wls
 have wx:=bx.wls
 have wq:=bq.wls
 have wm:=(bs.mul bx).wls
 simp(disch:=first|(simp;done)|omega|rfl) [-getElem?_pos, -V.cells, -V.one,A.ta44_1,h8,h7,gB2,gC2,lB,lC,Zah,t1,t2]
 refine Zaa (Ybh fB2.up fA2.up (by omega) (by omega) (by omega) (by omega)) ?_
 rintro v3 h3 n3 k3 hm3
 have le3:=k3.le
 have gA3:=(k3.get n (by omega)).trans gA2
 have lA3:n<n3:=by omega
 simp(disch:=first|(simp;done)|omega|rfl) [-getElem?_pos, -V.cells, -V.one,gA3,lA3,Zah,t3]
 refine Zaa (Zpf hm3 (fc2.keep k3).up (by omega) (by omega) (by omega) (by omega)) ?_
 rintro _ h4 n4 k4 hm4
 obtain⟨c4,rfl,hc4⟩:=hm4.c
 obtain⟨e41,e42⟩:=hc4.len
 have K4:=k3.trans k4
 have le4:=K4.le
 have gB4:=(K4.get B (by omega)).trans gB2
 have gL4:=(K4.get (N+1) (by omega)).trans gL2
 have lB4:B<n4:=by omega
 have e5:=Yuq (d:=cs) e41 s1
 have l5:4≤cs.length:=by omega
 have hLB:¬N+1<M:=by omega
 have hnB:¬n<M:=by omega
 have hBM:¬B<M:=by omega
 simp(disch:=first|(simp;done)|omega|rfl) [-getElem?_pos, -V.cells, -V.one,hcc,e41,e42,Zal,h8,gB4,lB4,e5,l5,Zam.chk,hLB,hnB,hBM,hW]
 have nuB:=fB2.noU
 have s5:c4.length=cs.length:=by omega
 have gL5:(h4.set B (.cells c4 102 true)).get (N+1)=some (.loop {vR r d with st:=.busy}):=by rw[T.get_set,Yqe (by omega)];exact gL4
 refine⟨{vR r d with st:=.busy},by rw[Yqe (by omega)];exact gL4,rfl,((U2.trans K4.upd).set (.inl (.inr (.inl rfl)))).set (.inl (.inl rfl)),rfl,c4,by rw[Yqe (by omega)],?_,?_,?_⟩
 ·exact(hc4.setNU (e1:=102) (w1:=true) gB4 nuB s5).setL gL5
 ·exact((fA2.keep K4).setNU (e1:=102) (w1:=true) gB4 nuB s5).setL gL5
 ·exact((hp2.keep K4).setB (e1:=102) (w1:=true) gB4 nuB s5 hRB).setL gL5
def Yv5{u:V}(h1:V.one u=true)(h2:V.cells u=[u]):Fn A.C 113 [u] h N (fun x h' n'=>∃e,x=.func 178 [] [.ptr N 0]∧N<n'∧h'.get N=some (.cells [u] e true)):=by
 intro w
 have kB:∀e,Keeps h N (h.set N (.cells [u] e true)) (N+1):=fun e=>Keeps.refl.new _
 rw[Zab,A.k113 (by simp)]
 simp(disch:=first|(simp;done)|omega|rfl) [-getElem?_pos, -V.cells, -V.one,A.b113,h1,h2,Ret]
 exact kB _
def Yvb{M B C Cb Rp:Nat}{r:T V}{ca cs:List V}{x:Rat}{p:List Rat}{e:TypeId}{w:List Nat}(hB:h.get B=some (.cells cs 102 true))(fB:FcC h N cs 0)(hA:h.get C=some (.cells ca 102 true))(fA:FcC h N ca x)(hp:RwQ h N Rp p 0)(hMB:M≤B)(hBN:B<N)(hCN:C<N)(hBC:¬C=B)(hRB:¬B=Rp)(hC:h.get Cb=some (.cells [.slice Rp 0 p.length (some p.length) 4] e true))(hCb:Cb<N)(hCbB:¬Cb=B)(h8:r.get 8=some (.ptr B 0))(h7:r.get 7=some (.ptr C 0))(qa:∀y∈p,Qb 164 y)(bx:Qb 164 x)(hl:p.length≤13)(hw:Zac M w=[]):
  Call A.C (.func 178 [] [.ptr Cb 0]) [.yield (N+1)] ⟨(h.set N (.defs true)).set (N+1) (.loop (vR r N)),N+1+1,w⟩ (fun _ st=>Zac M st.w=[]∧N+2≤st.n∧(∀i,i<N→¬i=B→st.h.get i=h.get i)∧st.h.get N=some (.defs true)∧∃R cs',st.h.get (N+1)=some (.loop R)∧R.st=.ready∧R.pend=none∧st.h.get B=some (.cells cs' 102 true)∧FcC st.h st.n cs' (Yuz p x)):=by
 have gD:((h.set N (.defs true)).set (N+1) (.loop (vR r N))).get N=some (.defs true):=by rw[T.get_set,Yqe (by omega),T.get_set,Yqi rfl]
 have gL:((h.set N (.defs true)).set (N+1) (.loop (vR r N))).get (N+1)=some (.loop (vR r N)):=by rw[T.get_set,Yqi rfl]
 have kG:Keeps h N ((h.set N (.defs true)).set (N+1) (.loop (vR r N))) (N+2):=(Keeps.refl.new _).new _
 generalize (h.set N (.defs true)).set (N+1) (.loop (vR r N))=G at*
 have gC:=(kG.get Cb hCb).trans hC
 have gB:=(kG.get B hBN).trans hB
 have gA:=(kG.get C hCN).trans hA
 have lC:Cb<N+1+1:=by omega
 rw[Zab,A.k178 (by simp)]
 have hp1:=hp.keep kG
 have dg:=fun w=>Yby (w:=w) hp1.frt.1 (by omega)
 simp(disch:=first|(simp;done)|omega|rfl) [-getElem?_pos,A.b178,gC,lC,dg]
 refine Zaj [(3,3),(6,17)] (fun e r' st=>e=.exit 0∧Zac M st.w=[]∧Upd (DW N B) G (N+2) st.h st.n∧st.h.get (N+1)=some (.loop (vR r N))∧∃cs',st.h.get B=some (.cells cs' 102 true)∧FcC st.h st.n cs' (Yuz p x)) (fun m r' st=>Zac M st.w=[]∧Upd (DW N B) G (N+2) st.h st.n∧st.h.get (N+1)=some (.loop (vR r N))∧∃t,t+m=p.length∧r'.get 3=some (.int .i64 ((p.length:Int)-1-t))∧∃cs',st.h.get B=some (.cells cs' 102 true)∧FcC st.h st.n cs' (Yvs p x t)∧FcC st.h st.n ca x∧RwQ st.h st.n Rp p 0) p.length ?_ ?_ ?_
 ·exact⟨by simp,Upd.refl,gL,0,by omega,by simp,cs,gB,fB.keep kG,fA.keep kG,hp1⟩
 ·rintro m r' ⟨H1,n1,W⟩ hr hf ⟨hW,U1,gL1,t,ht,h3,cs1,gB1,fB1,fA1,hp2⟩
  simp only at hW U1 gL1 gB1 fB1 fA1 hp2
  rw[Zai]
  cases m with
  |zero=>
   obtain rfl:t=p.length:=by omega
   have c1:¬(p.length:Int)≤(p.length:Int)-1:=by omega
   simp(disch:=first|(simp;done)|omega|rfl) [-getElem?_pos,A.lb178_0,hr,hf,h3,c1,hW,U1,gL1,gB1]
   exact fB1
  |succ m=>
   have c1:(t:Int)≤(p.length:Int)-1:=by omega
   have c2:(p.length:Int)-1-(t:Int)<(p.length:Int):=by omega
   have c3:((p.length:Int)-1-(t:Int)).toNat=p.length-1-t:=by omega
   have c4:(p.length:Int)-1-(t:Int)=((p.length-1-t:Nat):Int):=by omega
   have hj:p.length-1-t<p.length:=by omega
   have hn1:=U1.le
   have gC1:=(U1.get Cb (by omega) (by unfold DW;omega)).trans gC
   have gA1:=(U1.get C (by omega) (by unfold DW;omega)).trans gA
   have lC1:Cb<n1:=by omega
   obtain⟨csp,y1,_,_⟩:=hp2.ex
   obtain⟨ct,s1,fct⟩:=hp2.at (Zce (p:=p) hj) y1
   have lR:=hp2.lt
   have bv:=Yuk qa bx (k:=t) (by omega)
   have ht13:t*(164+164+1)≤13*(164+164+1):=Yqz _ (by omega)
   generalize csp.flatten++Zeh zF 0=Xp at*
   simp(disch:=first|(simp;done)|omega|rfl) [-getElem?_pos, -V.cells, -V.one,A.lb178_0,hr,hf,h3,c1,c2,c3,gC1,lC1,y1,lR,s1,Zah]
   rw[c4]
   refine Zd3 (Yvx gL1 gB1 fB1 gA1 fA1 fct hp2 (by omega) hMB hBN hCN hBC hRB h8 h7 bv bx (qa _ (Yqn (Zce (p:=p) hj))) (by omega) hW) ?_
   rintro _ ⟨H3,n3,W3⟩ ⟨rfl,hW3,U3,gL3,cs3,gB3,fB3,fA3,hp3⟩
   simp only at hW3 U3 gL3 gB3 fB3 fA3 hp3
   simp(disch:=first|(simp;done)|omega|rfl) [-getElem?_pos,hr,hf,h3,hW3,gL3,gB3]
   exact⟨m,by omega,U1.trans U3,t+1,by omega,by omega,fB3,fA3,hp3⟩
 ·rintro _ r' ⟨H1,n1,W⟩ hr ⟨rfl,hW,U1,gL1,cs1,gB1,fB1⟩
  simp only at hW U1 gL1 gB1 fB1
  simp(disch:=first|(simp;done)|omega|rfl) [-getElem?_pos,hr]
  refine⟨Zo5 fun i hi=>?_,U1.le,fun i hi hd=>(U1.get i (by omega) (by unfold DW;omega)).trans (kG.get i hi),(U1.get N (by omega) (by unfold DW;omega)).trans gD,vR r N,gL1,rfl,rfl,cs1,gB1,fB1⟩
  rcases Yry.1 hi with hi|hi
  ·exact Yge hW i (Zkk hi).1
  ·exact Yge hw i hi
def Ywe(x:V)(bad:Int)(q:Rat):Prop:=(bad≠0∧x=.tup [.str [],.int .i64 bad])∨(bad=0∧x=if Zrn q=true then .tup [.str [],.int .i64 4] else .tup [.str (Zaq q),.int .i64 0])
def vaE(a:List Str)(s:Str):Int:=Zau [Znj a,((chkNum s:Nat):Int)]
def Yvy{h:T O}{N:Nat}{u:V}{a:List Str}{s:Str}(hu:Sl h N u (strs a))(hP:P10 h N)(la:a.length<100000)(fa:∀s∈a,s.length≤40)(fs:s.length≤40):Fn A.C 44 [u,.str s] h N (fun x _ _=>Ywe x (vaE a s) (Yuz (rats a) (ratS s))):=by
 intro w
 have hlu:=hu.len
 rw[Zt1]at hlu
 rw[Zab,A.k44 (by simp)]
 simp(disch:=first|(simp;done)|omega|rfl) [-getElem?_pos,A.b44]
 refine Zaa (Yuy hu la fun s hs=>by have:=fa s hs;omega) ?_
 rintro _ h1 n1 k1 rfl
 simp(disch:=first|(simp;done)|omega|rfl) [-getElem?_pos,]
 refine Zaa (Yfn (by omega)) ?_
 rintro _ h2 n2 k2 rfl
 have hi:n2<n2+1:=by omega
 have kD:Keeps h N (h2.set n2 (.cells [.int .i64 (Znj a),.int .i64 ((chkNum s:Nat):Int)] 26 true)) (n2+1):=(k1.trans k2).trans (kset Keeps.refl _)
 unfold vaE
 by_cases c:Zau [Znj a,((chkNum s:Nat):Int)]=0
 ·obtain⟨ca,cs⟩:=Zio c
  have cs':chkNum s=0:=by omega
  obtain⟨a0,a1,a2,a3⟩:=Yui ca
  rw[c]
  rw[ca,cs]at kD
  have qs:=Ze6 cs' fs
  have es:=(Zco cs').1
  simp(disch:=first|(simp;done)|omega|rfl) [-getElem?_pos,splice,Zam.chk,ca,cs',Zzo hi,Zau,Zak]
  generalize h2.set n2 (.cells [.int .i64 0,.int .i64 0] 26 true)=H2 at*
  have ta:=Yuc a2
  have qa:=Yt9 a2 fa
  have hua:Sl h N u (tx (rats a)):=by rw[←ta];exact hu
  have lra:=@Yt6 a
  rw[←lra]at a0 a1
  generalize rats a=p at*
  clear c cs cs'
  generalize ratS s=q at*
  subst es
  refine Zaa (Zim qs (by omega)) ?_
  rintro v6 h6 n6 k6 hv6
  obtain⟨c6,rfl,hc6⟩:=hv6.c
  obtain⟨e61,e62⟩:=hc6.len
  have hcc:∀c:List V,(V.agg c).cells=c:=fun _=>rfl
  simp(disch:=first|(simp;done)|omega|rfl) [-getElem?_pos,]
  refine Zaa (Ybl (z:=0) (by decide) (by decide)) ?_
  rintro _ h7 n7 k7 hz
  obtain⟨c7,rfl,hc7⟩:=hz.c
  obtain⟨e71,e72⟩:=hc7.len
  have e4:=Yuq (d:=zF) e61 rfl
  unfold zF at e4
  have e5:=Yuq (d:=zF) e71 rfl
  unfold zF at e5
  have K7:=(kD.trans k6).trans k7
  have le7:=K7.le
  simp(disch:=first|(simp;done)|omega|rfl) [-getElem?_pos, -V.cells, -V.one,hcc,e61,e62,e71,e72,Zal,e4,e5]
  have kE:Keeps h7 n7 ((((h7.set n7 (.cells [.int .i64 0,.nilslice,.int .i64 0,.nilslice] 102 true)).set (n7+1) (.cells [.int .i64 0,.nilslice,.int .i64 0,.nilslice] 102 true)).set n7 (.cells c6 102 true)).set (n7+1) (.cells c7 102 true)) (n7+1+1):=(((Keeps.refl.new _).new _).set (Yqg _)).set (by omega)
  have gA:((((h7.set n7 (.cells [.int .i64 0,.nilslice,.int .i64 0,.nilslice] 102 true)).set (n7+1) (.cells [.int .i64 0,.nilslice,.int .i64 0,.nilslice] 102 true)).set n7 (.cells c6 102 true)).set (n7+1) (.cells c7 102 true)).get n7=some (.cells c6 102 true):=by simp
  have gB:((((h7.set n7 (.cells [.int .i64 0,.nilslice,.int .i64 0,.nilslice] 102 true)).set (n7+1) (.cells [.int .i64 0,.nilslice,.int .i64 0,.nilslice] 102 true)).set n7 (.cells c6 102 true)).set (n7+1) (.cells c7 102 true)).get (n7+1)=some (.cells c7 102 true):=by simp
  generalize (((h7.set n7 (.cells [.int .i64 0,.nilslice,.int .i64 0,.nilslice] 102 true)).set (n7+1) (.cells [.int .i64 0,.nilslice,.int .i64 0,.nilslice] 102 true)).set n7 (.cells c6 102 true)).set (n7+1) (.cells c7 102 true)=HB at*
  have KE:=K7.trans kE
  refine Zaa (Yuj (k0:=164) (hua.keep KE) (by omega) qa (by decide)) ?_
  rintro _ h8 n8 k8 ⟨rfl,hF⟩
  obtain⟨Rp,hRp⟩:∃Rp,Rp=n7+1+1:=⟨_,rfl⟩
  rw[←hRp]at hF ⊢
  have le8:=k8.le
  simp(disch:=first|(simp;done)|omega|rfl) [-getElem?_pos,]
  refine Zaa (Yv5 rfl rfl) ?_
  rintro _ h9 n9 k9 ⟨e9,rfl,c1,c2⟩
  have le9:=k9.le
  have k89:=k8.trans k9
  have gA9:=(k89.get n7 (by omega)).trans gA
  have gB9:=(k89.get (n7+1) (by omega)).trans gB
  have fA9:=((hc6.keep k7).keep kE).keep k89
  have fB9:=(hc7.keep kE).keep k89
  have fB9':FcC h9 n9 c7 0:=fB9
  simp(disch:=first|(simp;done)|omega|rfl) [-getElem?_pos,]
  refine Yu9 (gv:=.func 178 [] [.ptr n8 0]) (by simp) rfl (Yvb (M:=n7) (B:=n7+1) (C:=n7) (Cb:=n8) (Rp:=Rp) gB9 fB9' gA9 fA9 (hF.keep k9) (by omega) (by omega) (by omega) (by omega) (by omega) c2 c1 (by omega) (by simp) (by simp) qa qs (by omega) (by simp[Zo5])) ?_
  rintro _ ⟨H4,n4,W4⟩ ⟨hW4,le4,U4,gD4,R,cs4,gL4,r1,r2,gB4,fB4⟩
  simp only at hW4 le4 U4 gD4 gL4 gB4 fB4
  refine⟨R,gL4,by rw[r1];simp,?_⟩
  have hn:¬n7+1=n9+1:=by omega
  have fB5:=fB4.setL (o:=.loop {R with st:=.exhausted}) gL4
  have gD5:(H4.set (n9+1) (.loop {R with st:=.exhausted})).get n9=some (.defs true):=by rw[T.get_set,Yqe (by omega)];exact gD4
  have gB5:(H4.set (n9+1) (.loop {R with st:=.exhausted})).get (n7+1)=some (.cells cs4 102 true):=by rw[T.get_set,Yqe hn];exact gB4
  have leK:=KE.le
  have k5:Keeps h N (H4.set (n9+1) (.loop {R with st:=.exhausted})) n4:=⟨by omega,fun i hi=>by
   have:=K7.le
   rw[T.get_set,Yqe (by omega),U4 i (by omega) (by omega),k89.get i (by omega),KE.get i hi]⟩
  show Run A.C _ (some (.ex (Yux R.pend) _ ⟨H4.set (n9+1) (.loop {R with st:=.exhausted}),n4,(n9+1)::W4⟩)) _
  generalize H4.set (n9+1) (.loop {R with st:=.exhausted})=F at*
  rw[r2]
  have lB:n7+1<n4:=by omega
  obtain⟨e41,e42⟩:=fB5.len
  have s4:=Yuu e41
  simp(disch:=first|(simp;done)|omega|rfl) [-getElem?_pos, -V.cells, -V.one,gB5,lB,Yux,Zah,s4]
  have bq:=Yuk qa qs (k:=p.length) (by omega)
  have ht13:p.length*(164+164+1)≤13*(164+164+1):=Yqz _ (by omega)
  refine Zaa (Zze fB5.up (hP.keep k5) (k:=5000) (bq.mono (by omega)) (by decide)) ?_
  rintro _ h10 n10 k10 hx
  have gD10:=(k10.get n9 (by omega)).trans gD5
  have le10:=k10.le
  have K7l:=K7.le
  by_cases hb:Zrn (Yuz p q)=true
  ·rw[Yqi hb]at hx
   subst hx
   simp(disch:=first|(simp;done)|omega|rfl) [-getElem?_pos,]
   refine(Yu7 gD10 fun i=>by simp).2 ?_
   simp(disch:=first|(simp;done)|omega|rfl) [-getElem?_pos,Ret]
   exact⟨by rw[Yqe (by omega),Yqe (by omega)];exact Yu6 hW4 (by omega),(k5.trans k10).set (by omega),.inr ⟨rfl,by rw[Yqi hb]⟩⟩
  ·rw[Yqe hb]at hx
   subst hx
   simp(disch:=first|(simp;done)|omega|rfl) [-getElem?_pos,]
   refine(Yu7 gD10 fun i=>by simp).2 ?_
   simp(disch:=first|(simp;done)|omega|rfl) [-getElem?_pos,Ret]
   exact⟨by rw[Yqe (by omega),Yqe (by omega)];exact Yu6 hW4 (by omega),(k5.trans k10).set (by omega),.inr ⟨rfl,by rw[Yqe hb]⟩⟩
 ·simp(disch:=first|(simp;done)|omega|rfl) [-getElem?_pos,splice,Zam.chk,Zzo hi,c,Zak,Ret]
  exact⟨kD,.inl ⟨c,rfl⟩⟩
end
end Go.Mx
