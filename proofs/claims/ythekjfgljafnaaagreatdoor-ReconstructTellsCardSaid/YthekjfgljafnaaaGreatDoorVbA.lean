/-reconstruct-/
import Derived.Test.YthekjfgljafnaaaGreatDoorNfB
set_option linter.all false
namespace Go.Mx
open Go Go.Proofs
variable {N:Nat} {h:T O} {v:V}
set_option maxRecDepth 1000000
noncomputable def A.w96:=A.q Tryz.f96
noncomputable def A.lb96_0:=A.ql A.w96 0 []
noncomputable def A.b96:=(fun x0=>A.qb A.w96 [x0]) A.lb96_0
def A.k96:=@A.kk 96 21 [.tmp 4] A.b96 (by kernel_rfl) rfl
noncomputable def A.b49:=A.q Tryz.f49
def A.k49:=@A.kk 49 11 [.tmp 4] A.b49 (by kernel_rfl) rfl
noncomputable def A.w57:=A.q Tryz.f57
noncomputable def A.lb57_0:=A.ql A.w57 0 []
noncomputable def A.b57:=(fun x0=>A.qb A.w57 [x0]) A.lb57_0
def A.k57:=@A.kk 57 21 [.tmp 4] A.b57 (by kernel_rfl) rfl
def Yoe{f:V}{l:List Str}(P:Str→Int)(hs:Sl h N v (strs l))(hl:l.length<100000)(hf:∀s∈l,∀h' n',Keeps h N h' n'→FnV A.C f [.str s] h' n' (fun u _ _=>u=.int .i64 (P s))):Fn A.C 96 [v,f] h N (fun u _ _=>u=.int .i64 (Zam (l.map P))):=by
 intro w
 have hlen:=hs.len
 rw[Zb5]at hlen
 rw[Zab,A.k96 (by simp)]
 simp[A.b96,hlen]
 refine Zai [(4,4),(6,7),(10,20)] (fun e r st=>Zaa N st.w=[]∧Keeps h N st.h st.n∧((e=.exit 0∧Zam (l.map P)=0)∨(e=.ret∧r.get 4=some (.int .i64 (Zam (l.map P)))))) (fun m r st=>Zaa N st.w=[]∧Keeps h N st.h st.n∧∃k,k+m=l.length∧r.get 10=some (.int .i64 k)∧Zam (l.map P)=Zam ((l.drop k).map P)) l.length ?_ ?_ ?_
 ·exact⟨by simp,Keeps.refl,0,by omega,by simp,by simp⟩
 ·rintro m r ⟨H,n1,W⟩ hr hf2 ⟨hW,hK,k,hk,h7,hz⟩
  simp only at hW hK
  rw[Zah]
  cases m with
  |zero=>
   obtain rfl:k=l.length:=by omega
   rw[Yw5,Yyr,Zam]at hz
   simp[A.lb96_0,hr,hf2,h7,hz,hW,hK]
  |succ m=>
   have hlt:k<l.length:=by omega
   obtain⟨s,hc⟩:=Zae hlt
   obtain⟨i,o,cc,e,rw,q1,q2,q3,q4⟩:=(hs.keep hK).at (Zgo hc)
   rw[Zan hc,Yxk,Zam]at hz
   have hk1:(k:Int)<(l.length:Int):=by omega
   simp[A.lb96_0,hr,hf2,h7,hk1,hlt,hlen,q1,q2,q3,q4]
   refine Zhn (hf s (Yv7 hc) _ _ hK) ?_
   rintro _ h3 n3 k3 rfl
   have kk:=hK.trans k3
   by_cases h0:P s=0
   ·rw[Yv6 h0]at hz
    simp(disch:=first|(simp;done)|omega|rfl) [hr,hf2,h7,h0,hW,Zad]
    exact⟨m,by omega,kk,k+1,by omega,by simp,by simpa using hz⟩
   ·rw[Yv4 h0]at hz
    simp[hr,hf2,h7,h0,hW,Zad,hz]
    exact kk
 ·rintro _ r ⟨H,n1,W⟩ hr ⟨hW,hK,⟨rfl,hz⟩|⟨rfl,h2⟩⟩
  ·simp only at hW hK
   simp[hr,hz,Ret,hW,hK]
  ·simp only at hW hK
   simp[hr,h2,Ret,hW,hK]
def Zni{l:List Str}{n:Nat}(hs:Sl h N v (strs l))(hl:l.length<100000)(hf0:∀s∈l,s.length≤100000):Fn A.C 49 [v,.int .i64 n] h N (fun u _ _=>u=.int .i64 (Zbz l n)):=by
 intro w
 have hlen:=hs.len
 rw[Zb5]at hlen
 rw[Zab,A.k49 (by simp)]
 by_cases c:l.length=n
 ·subst c
  simp[A.b49,hlen,Zad]
  refine Zac (Yoe (fun s=>((chkNum s:Nat):Int)) hs hl fun s hs h' n' _=>Yjd (hf0 s hs)) ?_
  rintro _ H2 n2 k2 rfl
  simp[Ret,Zbz]
  exact k2
 ·have c':¬(l.length:Int)=(n:Int):=by omega
  simp[A.b49,hlen,c',Zbz,c,Ret,Zad]
  exact Keeps.refl
def Yha{l:List (List Str)}{n:Nat}(hs:MtS h N v l)(hl:l.length<100000)(hx:∀x∈l,x.length<100000∧∀s∈x,s.length≤100000):Fn A.C 57 [v,.int .i64 n] h N (fun u _ _=>u=.int .i64 (Zam (l.map fun x=>Zbz x n))):=by
 intro w
 have hlen:=hs.len
 rw[Zab,A.k57 (by simp)]
 simp[A.b57,hlen]
 refine Zai [(4,4),(6,7),(10,20)] (fun e r st=>Zaa N st.w=[]∧Keeps h N st.h st.n∧((e=.exit 0∧Zam (l.map (fun x=>Zbz x n))=0)∨(e=.ret∧r.get 4=some (.int .i64 (Zam (l.map (fun x=>Zbz x n))))))) (fun m r st=>Zaa N st.w=[]∧Keeps h N st.h st.n∧∃k,k+m=l.length∧r.get 10=some (.int .i64 k)∧Zam (l.map (fun x=>Zbz x n))=Zam ((l.drop k).map (fun x=>Zbz x n))) l.length ?_ ?_ ?_
 ·exact⟨by simp,Keeps.refl,0,by omega,by simp,by simp⟩
 ·rintro m r ⟨H,n1,W⟩ hr hf2 ⟨hW,hK,k,hk,h7,hz⟩
  simp only at hW hK
  rw[Zah]
  cases m with
  |zero=>
   obtain rfl:k=l.length:=by omega
   rw[Yw5,Yyr,Zam]at hz
   simp[A.lb57_0,hr,hf2,h7,hz,hW,hK]
  |succ m=>
   have hlt:k<l.length:=by omega
   obtain⟨s,hc⟩:=Zae hlt
   obtain⟨i,o,cc,e,rw,u,q1,q2,q3,q4,q5⟩:=(hs.keep hK).at hc
   rw[Zan hc,Yxk,Zam]at hz
   have hk1:(k:Int)<(l.length:Int):=by omega
   simp[A.lb57_0,hr,hf2,h7,hk1,hlt,hlen,q1,q2,q3,q4]
   refine Zac (Zni q5 (hx s (Yv7 hc)).1 (hx s (Yv7 hc)).2) ?_
   rintro _ h3 n3 k3 rfl
   have kk:=hK.trans k3
   by_cases h0:Zbz s n=0
   ·rw[Yv6 h0]at hz
    simp(disch:=first|(simp;done)|omega|rfl) [hr,hf2,h7,h0,hW,Zad]
    exact⟨m,by omega,kk,k+1,by omega,by simp,by simpa using hz⟩
   ·rw[Yv4 h0]at hz
    simp[hr,hf2,h7,h0,hW,Zad,hz]
    exact kk
 ·rintro _ r ⟨H,n1,W⟩ hr ⟨hW,hK,⟨rfl,hz⟩|⟨rfl,h2⟩⟩
  ·simp only at hW hK
   simp[hr,hz,Ret,hW,hK]
  ·simp only at hW hK
   simp[hr,h2,Ret,hW,hK]
variable {N:Nat} {h:T O} {l:List (List Str)} {v:V}
set_option maxHeartbeats 1000000
noncomputable def A.b186:=A.q Tryz.f186
def A.k186:=@A.kk 186 10 [.cell 2 (some 2)] A.b186 (by kernel_rfl) rfl
noncomputable def A.w117:=A.q Tryz.f117
noncomputable def A.lb117_0:=A.ql A.w117 0 []
noncomputable def A.b117:=(fun x0=>A.qb A.w117 [x0]) A.lb117_0
def A.k117:=@A.kk 117 47 [.tmp 4] A.b117 (by kernel_rfl) rfl
noncomputable def A.b47:=A.q Tryz.f47
def A.k47:=@A.kk 47 6 [.tmp 2] A.b47 (by kernel_rfl) rfl
def Ygn{l0:List Str}(hs:MtS h N v l)(h0:l[0]?=some l0):Fn A.C 186 [v] h N (fun u _ _=>u=.agg [.int .i64 l.length,.int .i64 l0.length]):=by
 intro w
 have hlen:=hs.len
 have cpos:0<l.length:=Zau h0
 have cpos':0<(l.length:Int):=by omega
 obtain⟨i0,o0,cc0,e0,rw0,u0,z1,z2,z3,z4,z5⟩:=hs.at h0
 have z6:=z5.len
 rw[Zb5]at z6
 rw[Yxc]at z4
 have d1:¬i0=N:=by omega
 have d2:¬N=i0:=by omega
 rw[Zab,A.k186 (by simp)]
 simp[A.b186,hlen,cpos,cpos',z1,z2,z3,z4,z6,d1,d2,splice,Zal,Zak,slc,Ret]
 exact(Keeps.refl.new _).set (Yv5 _)
def Zwm{a b:Nat}(hs:MtS h N v l)(hl:l.length<100000)(hx:∀x∈l,x.length<100000∧∀s∈x,s.length≤100000):Fn A.C 117 [v,.agg [.int .i64 a,.int .i64 b]] h N (fun u _ _=>u=.int .i64 (Zg9 l a b)):=by
 intro w
 have hlen:=hs.len
 rw[Zab,A.k117 (by simp)]
 by_cases c0:l.length=0
 ·have c0':(l.length:Int)=0:=by omega
  simp[A.b117,hlen,c0,c0',Zg9,Ret,Zad]
  exact Keeps.refl.new _
 have c0':¬(l.length:Int)=0:=by omega
 have cpos:0<l.length:=by omega
 have cpos':0<(l.length:Int):=by omega
 obtain⟨l0,hl0⟩:=Zae cpos
 obtain⟨i0,o0,cc0,e0,rw0,u0,z1,z2,z3,z4,z5⟩:=hs.at hl0
 have z6:=z5.len
 rw[Zb5]at z6
 rw[Yxc]at z4
 obtain⟨n,hn⟩:∃n,n=l0.length:=⟨_,rfl⟩
 have en:hdL l=n:=by simp[hdL,hl0,hn]
 rw[←hn]at z6
 have hn1:n<100000:=by have:=(hx l0 (Yv7 hl0)).1;omega
 have d1:¬i0=N:=by omega
 have d2:¬N=i0:=by omega
 by_cases c1:n=0
 ·have c1':(n:Int)=0:=by omega
  simp[A.b117,hlen,c0,c0',cpos,cpos',z1,z2,z3,z4,z6,d1,d2,c1,c1',Zg9,en,Ret,Zad]
  exact Keeps.refl.new _
 have c1':¬(n:Int)=0:=by omega
 have e1:Zg9 l a b=if a<l.length∨b<n then 5 else Zam (l.map fun x=>Zbz x n):=by simp[Zg9,en,c0,c1]
 rw[e1]
 simp[A.b117,hlen,c0,c0',cpos,cpos',z1,z2,z3,z4,z6,d1,d2,c1,c1',Zad]
 generalize hH:h.set N (.cells [.int .i64 a,.int .i64 b] 142 true)=H
 have k1:Keeps h N H (N+1):=by rw[←hH];exact Keeps.refl.new _
 have g1:H.get N=some (.cells [.int .i64 a,.int .i64 b] 142 true):=by rw[←hH];simp
 clear hH
 refine Zac (Ygn (hs.keep k1) hl0) ?_
 rintro _ H2 n2 k2 rfl
 rw[←hn]
 have kl2:=k2.le
 have g2:=(k2.get N (by omega)).trans g1
 have d3:¬N=n2:=by omega
 have d4:¬n2=N:=by omega
 have kz:Keeps h N ((H2.set n2 (.cells [.int .i64 0,.int .i64 0] 142 true)).set n2 (.cells [.int .i64 l.length,.int .i64 n] 142 true)) (n2+1):=((k1.trans k2).new _).set (by omega)
 by_cases c2:a<l.length
 ·have c2':(a:Int)<(l.length:Int):=by omega
  simp[hlen,g2,d3,d4,splice,Zal,Zak,slc,c2,c2',Ret,Zad]
  exact⟨by omega,kz⟩
 have c2':¬(a:Int)<(l.length:Int):=by omega
 by_cases c3:b<n
 ·have c3':(b:Int)<(n:Int):=by omega
  simp[hlen,g2,d3,d4,splice,Zal,Zak,slc,c2,c2',c3,c3',Ret,Zad]
  exact⟨by omega,kz⟩
 have c3':¬(b:Int)<(n:Int):=by omega
 simp[hlen,g2,d3,d4,splice,Zal,Zak,slc,c2,c2',c3,c3',Ret,Zad]
 generalize hH3:(H2.set n2 (.cells [.int .i64 0,.int .i64 0] 142 true)).set n2 (.cells [.int .i64 l.length,.int .i64 n] 142 true)=H3 at*
 have g3:H3.get n2=some (.cells [.int .i64 l.length,.int .i64 n] 142 true):=by rw[←hH3];simp
 clear hH3
 have kd:Keeps H3 (n2+1) H3 (n2+1):=Keeps.refl
 refine Zai [(4,4),(7,8),(35,46)] (fun e r st=>Zaa N st.w=[]∧Keeps h N st.h st.n∧((e=.exit 0∧Zam (l.map (fun x=>Zbz x n))=0)∨(e=.ret∧r.get 4=some (.int .i64 (Zam (l.map (fun x=>Zbz x n))))))) (fun m r st=>Zaa N st.w=[]∧Keeps h N st.h st.n∧(n2<st.n∧st.h.get n2=H3.get n2)∧∃k,k+m=l.length∧r.get 35=some (.int .i64 k)∧Zam (l.map (fun x=>Zbz x n))=Zam ((l.drop k).map (fun x=>Zbz x n))) l.length ?_ ?_ ?_
 ·exact⟨by simp;omega,kz,⟨by simp,rfl⟩,0,by omega,by simp,by simp⟩
 ·rintro m r ⟨H,n1,W⟩ hr hf2 ⟨hW,hK,⟨hlt2,hG⟩,k,hk,h7,hz⟩
  simp only at hW hK hlt2 hG
  rw[Zah]
  cases m with
  |zero=>
   obtain rfl:k=l.length:=by omega
   rw[Yw5,Yyr,Zam]at hz
   simp[A.lb117_0,hr,hf2,h7,hz,hW,hK]
  |succ m=>
   have hlt:k<l.length:=by omega
   obtain⟨s,hc⟩:=Zae hlt
   obtain⟨i,o,cc,e,rw,u,q1,q2,q3,q4,q5⟩:=(hs.keep hK).at hc
   have g4:=hG.trans g3
   rw[Zan hc,Yxk,Zam]at hz
   have hk1:(k:Int)<(l.length:Int):=by omega
   simp[A.lb117_0,hr,hf2,h7,hk1,hlt,hlen,q1,q2,q3,q4,g4,hlt2]
   refine Zac (Zni q5 (hx s (Yv7 hc)).1 (hx s (Yv7 hc)).2) ?_
   rintro _ h3 n3 k3 rfl
   have kk:=hK.trans k3
   by_cases h0:Zbz s n=0
   ·rw[Yv6 h0]at hz
    simp(disch:=first|(simp;done)|omega|rfl) [hr,hf2,h7,h0,hW,Zad]
    exact⟨m,by omega,kk,⟨by have:=k3.le;omega,(k3.get n2 hlt2).trans hG⟩,k+1,by omega,by simp,by simpa using hz⟩
   ·rw[Yv4 h0]at hz
    simp[hr,hf2,h7,h0,hW,Zad,hz]
    exact kk
 ·rintro _ r ⟨H,n1,W⟩ hr ⟨hW,hK,⟨rfl,hz⟩|⟨rfl,h2⟩⟩
  ·simp only at hW hK
   simp[hr,hz,Ret,hW,hK]
  ·simp only at hW hK
   simp[hr,h2,Ret,hW,hK]
def Yhb(hs:MtS h N v l)(hl:l.length<100000)(hx:∀x∈l,x.length<100000∧∀s∈x,s.length≤100000):Fn A.C 47 [v] h N (fun u _ _=>u=.int .i64 (Zg9 l 64 64)):=by
 intro w
 rw[Zab,A.k47 (by simp)]
 simp[A.b47,splice]
 refine Zac (Zwm (a:=64) (b:=64) hs hl hx) ?_
 rintro _ H2 n2 k2 rfl
 simp[Ret]
 exact k2
variable {N:Nat} {h:T O}
noncomputable def A.w45:=A.q Tryz.f45
noncomputable def A.lb45_0:=A.ql A.w45 0 []
noncomputable def A.b45:=(fun x0=>A.qb A.w45 [x0]) A.lb45_0
def A.k45:=@A.kk 45 18 [.tmp 2] A.b45 (by kernel_rfl) rfl
noncomputable def A.b46:=A.q Tryz.f46
def A.k46:=@A.kk 46 4 [.tmp 1] A.b46 (by kernel_rfl) rfl
noncomputable def A.b48:=A.q Tryz.f48
def A.k48:=@A.kk 48 9 [.tmp 2] A.b48 (by kernel_rfl) rfl
def Yjj{v:V}{fs:List V}{l:List Int}(hs:Sl h N v fs)(hlen0:fs.length=l.length)(hl:l.length<1000)(hf:∀(j:Nat) (f:V) (e:Int),fs[j]?=some f→l[j]?=some e→(∀(i:Nat) (x:Int),i<j→l[i]?=some x→x=0)→∀h' n',Keeps h N h' n'→FnV A.C f [] h' n' (fun u _ _=>u=.int .i64 e)):Fn A.C 45 [v] h N (fun u _ _=>u=.int .i64 (Zam l)):=by
 intro w
 have hlen:=hs.len
 rw[hlen0]at hlen
 rw[Zab,A.k45 (by simp)]
 simp[A.b45,hlen]
 refine Zai [(2,2),(4,5),(8,17)] (fun e r st=>Zaa N st.w=[]∧Keeps h N st.h st.n∧((e=.exit 0∧Zam l=0)∨(e=.ret∧r.get 2=some (.int .i64 (Zam l))))) (fun m r st=>Zaa N st.w=[]∧Keeps h N st.h st.n∧∃k,k+m=l.length∧r.get 8=some (.int .i64 k)∧Zam l=Zam (l.drop k)∧∀(i:Nat) (x:Int),i<k→l[i]?=some x→x=0) l.length ?_ ?_ ?_
 ·exact⟨by simp,Keeps.refl,0,by omega,by simp,by simp,fun i x hi=>by omega⟩
 ·rintro m r ⟨H,n1,W⟩ hr hf2 ⟨hW,hK,k,hk,h7,hz,h00⟩
  simp only at hW hK
  rw[Zah]
  cases m with
  |zero=>
   obtain rfl:k=l.length:=by omega
   rw[Yw5,Zam]at hz
   simp[A.lb45_0,hr,hf2,h7,hz,hW,hK]
  |succ m=>
   have hlt:k<l.length:=by omega
   obtain⟨s,hc⟩:=Zae hlt
   obtain⟨f,hfk⟩:=Zae (show k<fs.length by omega)
   obtain⟨i,o,cc,e,rw,q1,q2,q3,q4⟩:=(hs.keep hK).at hfk
   rw[Zan hc,Zam]at hz
   have hk1:(k:Int)<(l.length:Int):=by omega
   simp[A.lb45_0,hr,hf2,h7,hk1,hlt,hlen,q1,q2,q3,q4]
   refine Zhn (hf k f s hfk hc h00 _ _ hK) ?_
   rintro _ h3 n3 k3 rfl
   have kk:=hK.trans k3
   by_cases h0:s=0
   ·rw[Yv6 h0]at hz
    simp(disch:=first|(simp;done)|omega|rfl) [hr,hf2,h7,h0,hW,Zad]
    refine⟨m,by omega,kk,k+1,by omega,by simp,hz,fun i x hi hx=>?_⟩
    by_cases hik:i<k
    ·exact h00 i x hik hx
    ·obtain rfl:i=k:=by omega
     rw[hc]at hx
     rw[←h0]
     simpa using hx.symm
   ·rw[Yv4 h0]at hz
    simp[hr,hf2,h7,h0,hW,Zad,hz]
    exact kk
 ·rintro _ r ⟨H,n1,W⟩ hr ⟨hW,hK,⟨rfl,hz⟩|⟨rfl,h2⟩⟩
  ·simp only at hW hK
   simp[hr,hz,Ret,hW,hK]
  ·simp only at hW hK
   simp[hr,h2,Ret,hW,hK]
def Ypa{q:Nat}{u:V}{m:List (List Str)}{l:List Str}{eq:TypeId}{wq:Bool}(hgq:h.get q=some (.cells [u] eq wq))(hlq:q<N)(hs:MtS h N u m)(hml:m.length<100000)(hmx:∀x∈m,x.length<100000∧∀s∈x,s.length≤100000):FnV A.C (.func 46 [] [.ptr q 0]) [] h N (fun z _ _=>z=.int .i64 (Zg9 m 64 64)):=by
 intro w
 rw[Zab,A.k46 (by simp)]
 simp[A.b46,hgq]
 refine Zac (Yhb hs hml hmx) ?_
 rintro _ H2 n2 k2 rfl
 simp[Ret]
 exact k2
def Yo9{p q:Nat}{v u:V}{m:List (List Str)}{l:List Str}{ep eq:TypeId}{wp wq:Bool}(hgp:h.get p=some (.cells [v] ep wp))(hlp:p<N)(hgq:h.get q=some (.cells [u] eq wq))(hlq:q<N)(hs:MtS h N u m)(hml:m.length<100000)(hmx:∀x∈m,x.length<100000∧∀s∈x,s.length≤100000)(ht:Sl h N v (strs l))(hll:l.length<100000)(hlx:∀s∈l,s.length≤100000)(m0:0<m.length):FnV A.C (.func 48 [] [.ptr p 0,.ptr q 0]) [] h N (fun z _ _=>z=.int .i64 (Zbz l (hdL m))):=by
 intro w
 have ml:=hs.len
 have cpos':0<(m.length:Int):=by omega
 obtain⟨l0,hl0⟩:=Zae m0
 obtain⟨i0,o0,cc0,e0,rw0,u0,z1,z2,z3,z4,z5⟩:=hs.at hl0
 have z6:=z5.len
 rw[Zb5]at z6
 rw[Yxc]at z4
 obtain⟨n,hn⟩:∃n,n=l0.length:=⟨_,rfl⟩
 have en:hdL m=n:=by simp[hdL,hl0,hn]
 rw[en]
 rw[←hn]at z6
 rw[Zab,A.k48 (by simp)]
 simp[A.b48,hgq,hgp,ml,m0,cpos',z1,z2,z3,z4,z6]
 refine Zac (Zni ht hll hlx) ?_
 rintro _ H2 n2 k2 rfl
 have kle:=k2.le
 simp[]
 refine(Zl0 (by simp[-Zaa,hlq,hlp,z2,Zmq,Zkh])).2 ?_
 simp[Ret]
 exact k2
variable {N n n':Nat} {h h':T O} {l:List Rat} {u v:V}
set_option maxHeartbeats 2000000
noncomputable def A.w124:=A.q Tryz.f124
noncomputable def A.lb124_0:=A.ql A.w124 0 []
noncomputable def A.b124:=(fun x0=>A.qb A.w124 [x0]) A.lb124_0
def A.k124:=@A.kk 124 22 [.tmp 4] A.b124 (by kernel_rfl) rfl
def Yh0{f:V}{l:List V}{Q:Nat→T O→Nat→V→Prop}(Y:V→Prop)(hQ:∀j h n h' n' c u,Q j h n c→Upd (fun i=>i∈Zel u) h n h' n'→Zrl 80 Y h u→Q j h' n' c)(hs:Sl h N v l)(hl:l.length<1000000000)(hf:∀(j:Nat) (x:V),l[j]?=some x→∀h' n',Keeps h N h' n'→FnV A.C f [x] h' n' (fun u h2 n2=>∃y,u=y∧[y].length=1∧[y].all V.one=true∧(∀q∈[y],Y q)∧Q j h2 n2 y)):Fn A.C 124 [v,f] h N (fun u h' n'=>∃out,Own 1 80 N h' n' u out∧out.length=l.length∧∀(j:Nat),j<l.length→∃y,out[j]?=some [y]∧Q j h' n' y):=by
 intro w
 have hlen:=hs.len
 rw[Zab,A.k124 (by simp)]
 simp[A.b124,hlen]
 refine Zai [(5,5),(7,7),(10,20)] (fun e r st=>e=.exit 0∧Zaa N st.w=[]∧Keeps h N st.h st.n∧∃u out,r.get 5=some u∧Own 1 80 N st.h st.n u out∧out.length=l.length∧∀(j:Nat),j<l.length→∃y,out[j]?=some [y]∧Q j st.h st.n y) (fun m r st=>Zaa N st.w=[]∧Keeps h N st.h st.n∧∃k u out,k+m=l.length∧r.get 10=some (.int .i64 k)∧r.get 5=some u∧Own 1 80 N st.h st.n u out∧out.length=k∧(out=[]→u=.nilslice)∧(∀c∈out,∀y∈c,Y y)∧∀(j:Nat),j<k→∃y,out[j]?=some [y]∧Q j st.h st.n y) l.length ?_ ?_ ?_
 ·exact⟨by simp,Keeps.refl,0,.nilslice,[],by omega,by simp,by simp,Own.nil,rfl,fun _=>rfl,by simp,fun j hj=>by omega⟩
 ·rintro m r ⟨H,n1,W⟩ hr hf2 ⟨hW,hK,k,u,out,hk,h10,h5,ho,hol,hnil,hY,hout⟩
  simp only at hW hK ho hout
  rw[Zah]
  cases m with
  |zero=>
   have hkk:k=l.length:=by omega
   subst hkk
   simp[A.lb124_0,hr,hf2,h10,hW,hK]
   exact⟨u,h5,out,ho,hol,hout⟩
  |succ m=>
   have hlt:k<l.length:=by omega
   obtain⟨x,hx⟩:=Zae hlt
   obtain⟨i,o,cc,e,rw,q1,q2,q3,q4⟩:=(hs.keep hK).at hx
   have hk1:(k:Int)<(l.length:Int):=by omega
   have kA:=hK
   simp[A.lb124_0,hr,hf2,h10,h5,hk1,hlt,hlen,q1,q3,q4]
   refine Zhn (hf k x hx _ _ kA) ?_
   rintro y h3 n3 k3 ⟨_,rfl,c1,c2,cY,c3⟩
   have kle3:=k3.le
   have kn:=hK.le
   have kB:=kA.trans k3
   have b1:V.one y=true:=by simpa using c2
   have b2:V.cells y=[y]:=by cases y<;>first|rfl|cases b1
   simp[-V.cells, -V.one,hr,hf2,h10,h5,b1,b2,splice]
   have ho3:Own 1 80 N (h3.set n3 (.cells [y] 80 true)) (n3+1) u out:=(ho.keep ((Keeps.refl).trans k3)).keep (Keeps.refl.new _)
   obtain⟨v',h',w',f1,f2,f3,f4,fD,f5⟩:=Zdj (Y:=Y) (x:=[y]) (u:=.slice n3 0 1 (some 1) 1) (bytes:=24) (w:=W) ho3 hnil hY (by omega) (by decide) c1 (by simp[Zaz,St.row,slc]) (by omega)
   rw[f1]
   have wok:¬n1<N:=by omega
   have f6:Zaa N w'=[]:=by rw[f2];simp[Zaa,hW,wok]
   have kz:=(kB.new (.cells [y] 80 true)).then f3
   have k4:Keeps h3 n3 (h3.set n3 (.cells [y] 80 true)) (n3+1):=Keeps.refl.new _
   have hq4:Q k (h3.set n3 (.cells [y] 80 true)) (n3+1) y:=hQ _ _ _ _ _ _ .nilslice c3 k4.upd Zrl.nil
   simp(disch:=first|(simp;done)|omega|rfl) [hr,hf2,h10,f6]
   refine⟨m,by omega,kz,k+1,by omega,by simp,out++[[y]],f5,by simp[hol],by simp,fun c' hc z hz=>?_,fun j hj=>?_⟩
   ·rcases Yxs.1 hc with hc|hc
    ·exact hY c' hc z hz
    ·simp only[Yx0]at hc;subst hc;exact cY z hz
   by_cases hjk:j<k
   ·obtain⟨y,g1,g2⟩:=hout j hjk
    exact⟨y,by rw[Ywp (by omega)];exact g1,hQ _ _ _ _ _ _ _ (hQ _ _ _ _ _ _ .nilslice g2 (((Keeps.refl).trans k3).trans k4).upd Zrl.nil) f4 fD⟩
   ·obtain rfl:j=k:=by omega
    exact⟨y,by rw[Yw0 (by omega),hol];simp,hQ _ _ _ _ _ _ _ hq4 f4 fD⟩
 ·rintro _ r ⟨H,n1,W⟩ hr ⟨rfl,hW,hK,u,out,h5,ho,hol,hout⟩
  simp only at hW hK ho hout
  simp[hr,h5,Ret,hW,hK]
  exact⟨out,ho,hol,hout⟩
noncomputable def A.w97:=A.q Tryz.f97
noncomputable def A.lb97_0:=A.ql A.w97 0 []
noncomputable def A.b97:=(fun x0=>A.qb A.w97 [x0]) A.lb97_0
def A.k97:=@A.kk 97 22 [.tmp 4] A.b97 (by kernel_rfl) rfl
def Yh2{f:V}{l:List V}{Q:Nat→T O→Nat→List V→Prop}(Y:V→Prop)(hQ:∀j h n h' n' c u,Q j h n c→Upd (fun i=>i∈Zel u) h n h' n'→Zrl 111 Y h u→Q j h' n' c)(hs:Sl h N v l)(hl:l.length<1000000000)(hf:∀(j:Nat) (x:V),l[j]?=some x→∀h' n',Keeps h N h' n'→FnV A.C f [x] h' n' (fun u h2 n2=>∃c,u=(.agg c)∧c.length=4∧c.all V.one=true∧(∀q∈c,Y q)∧Q j h2 n2 c)):Fn A.C 97 [v,f] h N (fun u h' n'=>∃out,Own 4 111 N h' n' u out∧out.length=l.length∧∀(j:Nat),j<l.length→∃c,out[j]?=some c∧Q j h' n' c):=by
 intro w
 have hlen:=hs.len
 rw[Zab,A.k97 (by simp)]
 simp[A.b97,hlen]
 refine Zai [(5,5),(7,7),(10,20)] (fun e r st=>e=.exit 0∧Zaa N st.w=[]∧Keeps h N st.h st.n∧∃u out,r.get 5=some u∧Own 4 111 N st.h st.n u out∧out.length=l.length∧∀(j:Nat),j<l.length→∃c,out[j]?=some c∧Q j st.h st.n c) (fun m r st=>Zaa N st.w=[]∧Keeps h N st.h st.n∧∃k u out,k+m=l.length∧r.get 10=some (.int .i64 k)∧r.get 5=some u∧Own 4 111 N st.h st.n u out∧out.length=k∧(out=[]→u=.nilslice)∧(∀c∈out,∀y∈c,Y y)∧∀(j:Nat),j<k→∃c,out[j]?=some c∧Q j st.h st.n c) l.length ?_ ?_ ?_
 ·exact⟨by simp,Keeps.refl,0,.nilslice,[],by omega,by simp,by simp,Own.nil,rfl,fun _=>rfl,by simp,fun j hj=>by omega⟩
 ·rintro m r ⟨H,n1,W⟩ hr hf2 ⟨hW,hK,k,u,out,hk,h10,h5,ho,hol,hnil,hY,hout⟩
  simp only at hW hK ho hout
  rw[Zah]
  cases m with
  |zero=>
   have hkk:k=l.length:=by omega
   subst hkk
   simp[A.lb97_0,hr,hf2,h10,hW,hK]
   exact⟨u,h5,out,ho,hol,hout⟩
  |succ m=>
   have hlt:k<l.length:=by omega
   obtain⟨x,hx⟩:=Zae hlt
   obtain⟨i,o,cc,e,rw,q1,q2,q3,q4⟩:=(hs.keep hK).at hx
   have hk1:(k:Int)<(l.length:Int):=by omega
   have kA:=hK
   simp[A.lb97_0,hr,hf2,h10,h5,hk1,hlt,hlen,q1,q3,q4]
   refine Zhn (hf k x hx _ _ kA) ?_
   rintro _ h3 n3 k3 ⟨c,rfl,c1,c2,cY,c3⟩
   have kle3:=k3.le
   have kn:=hK.le
   have kB:=kA.trans k3
   have b1:∀v:List V,(V.agg v).cells=v:=fun _=>rfl
   have b2:splice [(.int .i64 0),.nilslice,(.int .i64 0),.nilslice] 0 c=c:=by unfold splice;rw[c1];simp[c1]
   simp[-V.cells, -V.one,hr,hf2,h10,h5,b1,b2,c1,c2]
   have ho3:Own 4 111 N (h3.set n3 (.cells c 111 true)) (n3+1) u out:=(ho.keep ((Keeps.refl).trans k3)).keep (Keeps.refl.new _)
   obtain⟨v',h',w',f1,f2,f3,f4,fD,f5⟩:=Zdj (Y:=Y) (x:=c) (u:=.slice n3 0 1 (some 1) 4) (bytes:=64) (w:=W) ho3 hnil hY (by omega) (by decide) c1 (by simp only[Zaz,St.row,T.get_set,if_true];unfold slc;simp[c1];exact Ywe (by omega)) (by omega)
   rw[f1]
   have wok:¬n1<N:=by omega
   have f6:Zaa N w'=[]:=by rw[f2];simp[Zaa,hW,wok]
   have kz:=(kB.new (.cells c 111 true)).then f3
   have k4:Keeps h3 n3 (h3.set n3 (.cells c 111 true)) (n3+1):=Keeps.refl.new _
   have hq4:Q k (h3.set n3 (.cells c 111 true)) (n3+1) c:=hQ _ _ _ _ _ _ .nilslice c3 k4.upd Zrl.nil
   simp(disch:=first|(simp;done)|omega|rfl) [hr,hf2,h10,f6]
   refine⟨m,by omega,kz,k+1,by omega,by simp,out++[c],f5,by simp[hol],by simp,fun c' hc z hz=>?_,fun j hj=>?_⟩
   ·rcases Yxs.1 hc with hc|hc
    ·exact hY c' hc z hz
    ·simp only[Yx0]at hc;subst hc;exact cY z hz
   by_cases hjk:j<k
   ·obtain⟨c,g1,g2⟩:=hout j hjk
    exact⟨c,by rw[Ywp (by omega)];exact g1,hQ _ _ _ _ _ _ _ (hQ _ _ _ _ _ _ .nilslice g2 (((Keeps.refl).trans k3).trans k4).upd Zrl.nil) f4 fD⟩
   ·obtain rfl:j=k:=by omega
    exact⟨c,by rw[Yw0 (by omega),hol];simp,hQ _ _ _ _ _ _ _ hq4 f4 fD⟩
 ·rintro _ r ⟨H,n1,W⟩ hr ⟨rfl,hW,hK,u,out,h5,ho,hol,hout⟩
  simp only at hW hK ho hout
  simp[hr,h5,Ret,hW,hK]
  exact⟨out,ho,hol,hout⟩
noncomputable def A.w89:=A.q Tryz.f89
noncomputable def A.lb89_0:=A.ql A.w89 0 []
noncomputable def A.b89:=(fun x0=>A.qb A.w89 [x0]) A.lb89_0
def A.k89:=@A.kk 89 26 [.cell 4 (some 4)] A.b89 (by kernel_rfl) rfl
noncomputable def A.b129:=A.q Tryz.f129
def A.k129:=@A.kk 129 8 [.cell 4 (some 4)] A.b129 (by kernel_rfl) rfl
abbrev NW(y:V):Prop:=∀m,y≠.int .u64 m
def In.moved{x:V}{z:Int}{e:TypeId}(s:In h n x z)(k:Upd (fun i=>i∈Zel v) h n h' n')(hd:Zrl e NW h v):In h' n' x z:=by
 rcases s with s|⟨i,o,l,c,s1,s2,s3⟩
 ·exact .inl s
 ·refine .inr ⟨i,o,l,c,s1,Sl.moved s2 k fun j hj hjv=>?_,s3⟩
  simp[Zel]at hj
  subst hj
  obtain⟨z2,g1,_,g3⟩:=hd j hjv
  unfold Wn at s2
  have hne:wds z.natAbs≠[]:=fun h0=>by
   have:=Zbp z.natAbs
   rw[h0]at this
   simp[val]at this
   omega
  obtain⟨d,ds,hds⟩:=List.exists_cons_of_ne_nil hne
  have hat:(dg (wds z.natAbs))[0]?=some (.int .u64 d):=by rw[hds];simp[dg]
  obtain⟨i2,o2,c2,e2,rw2,q1,q2,q3,q4⟩:=Sl.at s2 hat
  simp[Zk3]at q1
  obtain⟨rfl,rfl⟩:=q1
  rw[g1]at q3
  simp only[Yv3,O.cells.injEq]at q3
  obtain⟨rfl,_⟩:=q3
  exact g3 _ (Yv7 q4) _ rfl
def FcC.moved{c:List V}{q:Rat}{e:TypeId}(s:FcC h n c q)(k:Upd (fun i=>i∈Zel v) h n h' n')(hd:Zrl e NW h v):FcC h' n' c q:=by
 obtain⟨n1,u1,n2,u2,rfl,s1,s2⟩:=s
 exact⟨n1,u1,n2,u2,rfl,s1.moved k hd,s2.moved k hd⟩
def Sn.row_lt{z:Nat}{l:List (List V)}(s:Sn z h N v l):∀i∈Zel v,i<N:=fun i hi=>by
 rcases s with⟨_,rfl|rfl⟩|⟨j,o,cp,c,e,rw,rfl,hj,_⟩
 ·simp[Zel]at hi
 ·simp[Zel]at hi
 ·simp[Zel]at hi;omega
def Sn.moved{z:Nat}{D:Nat→Prop}{N':Nat}{l:List (List V)}(s:Sn z h N v l)(k:Upd D h N h' N')(hd:∀i∈Zel v,¬D i):Sn z h' N' v l:=by
 rcases s with s|⟨i,o,cp,c,e,rw,rfl,h2,h3,h4⟩
 ·exact .inl s
 ·exact .inr ⟨i,o,cp,c,e,rw,rfl,Ywf h2 k.le,(k.get i h2 (hd i (by simp[Zel]))).trans h3,h4⟩
def FrT.keep{N':Nat}(s:FrT h N u l)(k:Keeps h N h' N'):FrT h' N' u l:=⟨s.1.keep k,fun i hi=>by
 obtain⟨cs,h1,_⟩:=s.1
 rw[k.get i (h1.row_lt i hi)]
 exact s.2 i hi⟩
def FrT.moved{e:TypeId}(s:FrT h n u l)(k:Upd (fun i=>i∈Zel v) h n h' n')(hd:Zrl e NW h v)(he:e≠111):FrT h' n' u l:=by
 obtain⟨⟨cs,h1,h2,h3⟩,h4⟩:=s
 have hn:∀i∈Zel u,i∉Zel v:=fun i hi hc=>by
  obtain⟨z,w,hz⟩:=h4 i hi
  obtain⟨z2,hz2,_⟩:=hd i hc
  rw[hz]at hz2
  simp at hz2
  exact he hz2.2.1.symm
 refine⟨⟨cs,h1.moved k hn,h2,fun j q hq=>?_⟩,fun i hi=>by rw[k.get i (h1.row_lt i hi) (hn i hi)];exact h4 i hi⟩
 obtain⟨c,g1,g2⟩:=h3 j q hq
 exact⟨c,g1,g2.moved k hd⟩
def Yj8{N0:Nat}{out:List (List V)}(s:Own 4 111 N0 h N v out)(hl:out.length=l.length)(hc:∀(j:Nat),j<l.length→∃c,out[j]?=some c∧∀q,l[j]?=some q→FcC h N c q):FrT h N v l:=by
 refine⟨⟨out,s.sn,hl,fun j q hq=>?_⟩,fun i hi=>?_⟩
 ·obtain⟨c,g1,g2⟩:=hc j (Zau hq)
  exact⟨c,g1,g2 q hq⟩
 ·obtain⟨_,⟨_,rfl⟩|⟨j,rfl,_,_,hg⟩⟩:=s
  ·simp[Zel]at hi
  ·simp[Zel]at hi;subst hi;exact⟨_,_,hg⟩
structure DtI (h:T O) (N p:Nat) (a b:List Rat) (m:Nat) (r:T V) (st:St):Prop where
 w:Zaa N st.w=[]
 keep:Keeps h N st.h st.n
 ex:∃(t:Nat) (c:List V),t+m=a.length∧r.get 10=some (.int .i64 t)∧p<st.n∧st.h.get N=some (.cells zF 111 true)∧st.h.get p=some (.cells c 111 true)∧FcC st.h st.n c (Zp1 a b t)
def Yro{a b:List Rat}{j k:Nat}(hu:FrS h N u a)(hv:FrS h N v b)(hab:a.length≤b.length)(ha:∀q∈a,Qb j q)(hb:∀q∈b,Qb k q)(hj:1≤j)(hk:1≤k)(hl:a.length*(j+k+1)+j+k+1≤400000000):Fn A.C 89 [u,v] h N (fun x h' n'=>Fc h' n' x (Yau a b)):=by
 intro w
 have l1:=hu.len
 have l2:=hv.len
 have hal:a.length≤400000000:=by have:=Nat.le_mul_of_pos_right a.length (show 0<j+k+1 by omega);omega
 rw[Zab,A.k89 (by simp)]
 simp[A.b89]
 refine Zac (Yn5 (by omega) (by omega)) ?_
 rintro _ h1 n1 k1 hz
 obtain⟨c,rfl,hc⟩:=hz.c
 have kB:Keeps h N (h.set N (.cells zF 111 true)) (N+1):=Keeps.refl.new _
 have le1:=k1.le
 have g1:=k1.get N (by omega)
 rw[T.get_set,Yv6 rfl]at g1
 obtain⟨e1,e2⟩:=hc.len
 have hcc:(V.agg c).cells=c:=rfl
 have e4:splice zF 0 c=c:=by unfold splice;rw[e1];simp[e1,zF]
 have hnz:NoU zF:=by intro x hx m;simp[zF]at hx;rcases hx with rfl|rfl|rfl|rfl<;>simp
 unfold zF at e4
 simp[-V.cells, -V.one,hcc,e1,e2,e4,Zal,l1]
 generalize hH:(h1.set n1 (.cells [.int .i64 0,.nilslice,.int .i64 0,.nilslice] 111 true)).set n1 (.cells c 111 true)=H1
 have kA:Keeps h1 n1 H1 (n1+1):=by rw[←hH];exact(Keeps.refl.new _).set (Yv5 _)
 have kC:Keeps h N H1 (n1+1):=(kB.trans k1).trans kA
 have g2:H1.get n1=some (.cells c 111 true):=by rw[←hH];simp
 have g3:=(kA.get N (by omega)).trans g1
 clear hH
 refine Zai [(6,6),(10,24)] (fun e r st=>e=.exit 0∧DtI h N n1 a b 0 r st) (DtI h N n1 a b) a.length ?_ ?_ ?_
 ·exact⟨by simp;omega,kC,0,c,by omega,by simp,by show n1<n1+1;omega,g3,g2,by simpa[Zp1]using hc.keep kA⟩
 ·rintro m r ⟨H,n2,W⟩ hr hf ⟨hW,hK,t,c0,ht,h10,hpn,hg0,hgp,hcp⟩
  simp only at hW hK hpn hg0 hgp hcp
  rw[Zah]
  cases m with
  |zero=>
   obtain rfl:t=a.length:=by omega
   simp[A.lb89_0,hr,hf,h10]
   exact⟨hW,hK,a.length,c0,by omega,by simp[h10],hpn,hg0,hgp,hcp⟩
  |succ m=>
   have hlt:t<a.length:=by omega
   have hlt':(t:Int)<(a.length:Int):=by omega
   have hlb:t<b.length:=by omega
   have hlb':(t:Int)<(b.length:Int):=by omega
   obtain⟨x,hx⟩:=Zae hlt
   obtain⟨y,hy⟩:=Zae hlb
   have hpb:=ha x (Yv7 hx)
   have hqb:=hb y (Yv7 hy)
   have hsb:=Zn9 ha hb hj hk t
   have hpq:=hpb.mul hqb
   have hmul:t*(j+k+1)≤a.length*(j+k+1):=Ywr _ (by omega)
   have ee:Zp1 a b (t+1)=Zp1 a b t+x*y:=by simp[Zp1,hx,hy]
   obtain⟨i,o,cc,e,rw,ca,q1,q2,q3,q4,q5⟩:=(hu.keep hK).at hx
   obtain⟨i',o',cc',e',rw',cb,p1,p2,p3,p4,p5⟩:=(hv.keep hK).at hy
   have s0:slc c0 0 4=some c0:=by unfold slc;rw[hcp.len.1];simp;exact Ywe (by rw[hcp.len.1];omega)
   simp[A.lb89_0,hr,hf,h10,l1,l2,hlt,hlt',hlb,hlb',hgp,s0,q1,q2,q3,q4,p1,p2,p3,p4]
   have w1:=Zl3 hpb.1
   have w2:=Zl3 (z:=(x.den:Int)) (k:=j) (by rw[Ywc];exact hpb.2)
   have w3:=Zl3 hqb.1
   have w4:=Zl3 (z:=(y.den:Int)) (k:=k) (by rw[Ywc];exact hqb.2)
   have w5:=Zl3 hsb.1
   have w6:=Zl3 (z:=((Zp1 a b t).den:Int)) (by rw[Ywc];exact hsb.2)
   have w7:=Zl3 hpq.1
   have w8:=Zl3 (z:=((x*y).den:Int)) (by rw[Ywc];exact hpq.2)
   refine Zac (Zvg q5.fc p5.fc (by omega) (by omega) (by omega) (by omega)) ?_
   rintro x3 h3 n3 k3 hm3
   simp[]
   refine Zac (Yei (hcp.keep k3).fc hm3 (by omega) (by omega) (by omega) (by omega)) ?_
   rintro _ h4' n4 k4 hs4
   rw[←ee]at hs4
   obtain⟨c4,rfl,hc4⟩:=hs4.c
   have le3:=k3.le
   have le4:=k4.le
   have gp4:=(k4.get n1 (by omega)).trans ((k3.get n1 (by omega)).trans hgp)
   have g04:=(k4.get N (by omega)).trans ((k3.get N (by omega)).trans hg0)
   obtain⟨f1,f2⟩:=hc4.len
   have f3:=hcp.len.1
   have hcc4:(V.agg c4).cells=c4:=rfl
   have e5:splice c0 0 c4=c4:=by unfold splice;rw[f1];simp[f3]
   simp[-V.cells, -V.one,hr,hf,h10,hcc4,f1,f2,f3,e5,gp4,Zal]
   have d2:n1<n4:=by omega
   have d3:¬N=n1:=by omega
   have d4:¬n1<N:=by omega
   refine(Zl0 (by simp[-Zaa,hpn,d2,Zmq,Zkh])).2 ?_
   simp(disch:=first|(simp;done)|omega|rfl) [hr,hf,h10,hlt,hlt',d2]
   exact⟨m,by omega,by simp[Zaa,hW,d4],((hK.trans k3).trans k4).set (by omega),t+1,c4,by omega,by simp,d2,by show T.get _ N=_;rw[T.get_set,Yv4 d3];exact g04,by show T.get _ n1=_;rw[T.get_set,Yv6 rfl],hc4.setNU gp4 hcp.noU (by rw[f1,f3])⟩
 ·rintro _ r ⟨H,n2,W⟩ hr ⟨rfl,hW,hK,t,c0,ht,h10,hpn,hg0,hgp,hcp⟩
  simp only at hW hK hpn hg0 hgp hcp
  obtain rfl:t=a.length:=by omega
  have s0:slc c0 0 4=some c0:=by unfold slc;rw[hcp.len.1];simp;exact Ywe (by rw[hcp.len.1];omega)
  have hcc0:(V.agg c0).cells=c0:=rfl
  have e5:splice zF 0 c0=c0:=by unfold splice;rw[hcp.len.1];simp[hcp.len.1,zF]
  have f1:=hcp.len.1
  have f2:=hcp.len.2
  unfold zF at e5 hg0
  simp[-V.cells, -V.one,hr,hgp,hg0,s0,Zal,hcc0,f1,f2,e5,Ret]
  exact⟨hW,hK.set (Yv5 N),(hcp.setNU hg0 hnz (by rw[f1];rfl)).fc⟩
variable {N:Nat} {h:T O} {m:List (List Rat)} {v:V}
noncomputable def A.b51:=A.q Tryz.f51
def A.k51:=@A.kk 51 11 [.tmp 4] A.b51 (by kernel_rfl) rfl
noncomputable def A.b41:=A.q Tryz.f41
def A.k41:=@A.kk 41 5 [.tmp 2] A.b41 (by kernel_rfl) rfl
def Ylc{u:V}{a b:List Rat}{j k:Nat}(hu:FrS h N u a)(hv:FrS h N v b)(hab:a.length≤b.length)(ha:∀q∈a,Qb j q)(hb:∀q∈b,Qb k q)(hj:1≤j)(hk:1≤k)(hl:a.length*(j+k+1)+j+k+1≤400000000):FnV A.C (.func 129 [v] []) [u] h N (fun x h' n'=>Fc h' n' x (Yau a b)):=by
 intro w
 have kB:Keeps h N (h.set N (.cells zF 111 true)) (N+1):=Keeps.refl.new _
 rw[Zab,A.k129 (by simp)]
 simp[A.b129]
 refine Zac (Yro (hu.keep kB) (hv.keep kB) hab ha hb hj hk hl) ?_
 rintro _ h1 n1 k1 hz
 obtain⟨c,rfl,hc⟩:=hz.c
 have le1:=k1.le
 have g1:=k1.get N (by omega)
 rw[T.get_set,Yv6 rfl]at g1
 obtain⟨e1,e2⟩:=hc.len
 have hcc:(V.agg c).cells=c:=rfl
 have e4:splice zF 0 c=c:=by unfold splice;rw[e1];simp[e1,zF]
 have hnz:NoU zF:=by intro x hx m;simp[zF]at hx;rcases hx with rfl|rfl|rfl|rfl<;>simp
 have kk:=(kB.trans k1).set (h:=h) (n:=N) (i:=N) (o:=.cells c 111 true) (Yv5 N)
 have hfin:=(hc.setNU (e1:=111) (w1:=true) (c1:=c) g1 hnz (by rw[e1];rfl)).fc
 have s0:slc c 0 4=some c:=by unfold slc;rw[e1];simp;exact Ywe (by omega)
 have hlt:N<n1:=by omega
 unfold zF at e4
 simp[-V.cells, -V.one,hcc,e1,e2,e4,s0,g1,Zal,Ret,Zao.chk]
 exact⟨kk,hfin⟩
def MfS(h:T O)(N:Nat)(v:V)(m:List (List Rat)):Prop:=∃us:List V,Sl h N v us∧us.length=m.length∧∀(j:Nat) (l:List Rat),m[j]?=some l→∃u,us[j]?=some u∧FrT h N u l
def MfS.keep{h':T O}{N':Nat}(s:MfS h N v m)(k:Keeps h N h' N'):MfS h' N' v m:=by
 obtain⟨us,h1,h2,h3⟩:=s
 refine⟨us,h1.keep k,h2,fun j l hl=>?_⟩
 obtain⟨u,g1,g2⟩:=h3 j l hl
 exact⟨u,g1,g2.keep k⟩
def MfS.len(s:MfS h N v m):Zo1 v=some m.length:=by
 obtain⟨us,h1,h2,_⟩:=s
 rw[h1.len,h2]
def FrS.form{l:List Rat}(s:FrS h N v l):V.one v=true∧V.cells v=[v]∧NW v:=by
 obtain⟨cs,⟨_,rfl|rfl⟩|⟨i,o,cp,c,e,rw,rfl,_⟩,_⟩:=s
 ·exact⟨rfl,rfl,fun m=>by simp⟩
 ·exact⟨rfl,rfl,fun m=>by simp⟩
 ·exact⟨rfl,rfl,fun m=>by simp⟩
def Zie{k0:Nat}(hs:TxM h N v m)(hl:m.length<1000000000)(hm:∀l∈m,l.length<1000000000∧∀q∈l,Qb k0 q)(hk0:k0≤4000):Fn A.C 41 [v] h N (fun u h' n'=>MfS h' n' u m):=by
 intro w
 obtain⟨us,h1,h2,h3⟩:=hs
 rw[Zab,A.k41 (by simp)]
 simp[A.b41]
 refine Zac (Yh0 (Q:=fun j h n u=>∀l,m[j]?=some l→FrT h n u l) NW (fun j h n h' n' c u hq k hd l hl=>(hq l hl).moved k hd (by simp)) h1 (by omega) ?_) ?_
 ·intro j x hx h' n' hk
  obtain⟨l,hl⟩:=Zae (l:=m) (k:=j) (by have:=Zau hx;omega)
  obtain⟨u,g1,g2⟩:=h3 j l hl
  rw[hx]at g1
  obtain rfl:x=u:=by simpa using g1
  obtain⟨b1,b2⟩:=hm l (Yv7 hl)
  refine fun w=>(Zpy (k0:=k0) (g2.keep hk) b1 b2 hk0 w).mono fun y st=>?_
  rintro⟨q1,q2,q3⟩
  obtain⟨f1,f2,f3⟩:=q3.1.form
  refine⟨q1,q2,y,rfl,rfl,by simp only[List.all_cons,List.all_nil,f1,Bool.and_true],by simpa using f3,fun l' hl'=>?_⟩
  rw[hl]at hl'
  obtain rfl:l=l':=by simpa using hl'
  exact q3
 ·rintro u h4 n4 k4 ⟨out,o1,o2,o3⟩
  simp[Ret]
  refine⟨k4,?_⟩
  have hx:∀x∈out,∃y,x=[y]:=fun x hx=>by
   have:=o1.1 x hx
   cases x with
   |nil=>simp at this
   |cons y t=>cases t with
    |nil=>exact⟨y,rfl⟩
    |cons a b=>simp at this
  obtain⟨ys,hys⟩:∃ys:List V,out=ys.map fun y=>[y]:=by
   clear o1 o2 o3
   induction out with
   |nil=>exact⟨[],rfl⟩
   |cons x t ih=>
    obtain⟨y,rfl⟩:=hx x (by simp)
    obtain⟨ys,rfl⟩:=ih fun x hx'=>hx x (by simp[hx'])
    exact⟨y::ys,rfl⟩
  subst hys
  refine⟨ys,Sn.one.1 o1.sn,by simpa[h2]using o2,fun j l hl=>?_⟩
  obtain⟨y,g1,g2⟩:=o3 j (by have:=Zau hl;omega)
  refine⟨y,?_,g2 l hl⟩
  rw[Ywj]at g1
  cases hy:ys[j]? with
  |none=>rw[hy]at g1;simp at g1
  |some z=>rw[hy]at g1;simpa using g1
def Ynb{f:V}(F:List Rat→Rat)(hs:MfS h N v m)(hl:m.length<1000000000)(hf:∀l∈m,∀u h' n',Keeps h N h' n'→FrT h' n' u l→FnV A.C f [u] h' n' (fun x h2 n2=>Fc h2 n2 x (F l))):Fn A.C 97 [v,f] h N (fun u h' n'=>FrT h' n' u (m.map F)):=by
 obtain⟨us,h1,h2,h3⟩:=hs
 have key:=Yh2 (f:=f) (Q:=fun j h n c=>∀q,(m.map F)[j]?=some q→FcC h n c q) NW (fun j h n h' n' c u hq k hd q hq'=>(hq q hq').moved k hd) h1 (by omega) ?_
 ·intro w
  refine(key w).mono fun u st=>?_
  rintro⟨q1,q2,out,o1,o2,o3⟩
  exact⟨q1,q2,Yj8 o1 (by simpa[h2]using o2) fun j hj=>o3 j (by simp at hj;omega)⟩
 ·intro j x hx h' n' hk
  obtain⟨l,hl⟩:=Zae (l:=m) (k:=j) (by have:=Zau hx;omega)
  obtain⟨u,g1,g2⟩:=h3 j l hl
  rw[hx]at g1
  obtain rfl:x=u:=by simpa using g1
  refine fun w=>(hf l (Yv7 hl) x h' n' hk (g2.keep hk) w).mono fun y st=>?_
  rintro⟨q1,q2,q3⟩
  obtain⟨c,rfl,hc⟩:=q3.c
  refine⟨q1,q2,c,rfl,hc.len.1,hc.len.2,hc.noU,fun q hq=>?_⟩
  simp[hl]at hq
  rw[←hq]
  exact hc
def Ycj{u:V}{b:List Rat}{j k n:Nat}(hu:MfS h N u m)(hv:FrS h N v b)(hm:∀r∈m,r.length=n∧∀q∈r,Qb j q)(hn:n≤b.length)(hb:∀q∈b,Qb k q)(hj:1≤j)(hk:1≤k)(hl:n*(j+k+1)+j+k+1≤400000000)(hml:m.length<100000):Fn A.C 51 [u,v] h N (fun x h' n'=>FrT h' n' x (m.map fun r=>Yau r b)):=by
 intro w
 rw[Zab,A.k51 (by simp)]
 simp[A.b51]
 refine Zac (Ynb (fun r=>Yau r b) hu (by omega) fun l hl2 x h' n' hk2 hx=>?_) ?_
 ·obtain⟨b1,b2⟩:=hm l hl2
  exact Ylc hx.1 (hv.keep hk2) (by omega) b2 hb hj hk (by rw[b1];exact hl)
 ·rintro x h4 n4 k4 hx
  simp[Ret]
  exact⟨k4,hx⟩
end Go.Mx
