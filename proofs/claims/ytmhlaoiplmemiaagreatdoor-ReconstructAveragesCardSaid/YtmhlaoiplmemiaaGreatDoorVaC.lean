/-lensletref05-/
import Derived.Test.YtmhlaoiplmemiaaGreatDoorNdC
set_option linter.all false
namespace Go.Mx
open Go Go.Proofs
variable {N n:Nat} {h:T O} {m:List (List Str)} {v:V} {w:List Nat}
set_option maxRecDepth 1000000
noncomputable def A.w71:=A.q Tryz.f71
noncomputable def A.lb71_0:=A.ql A.w71 0 []
noncomputable def A.b71:=(fun x0=>A.qb A.w71 [x0]) A.lb71_0
def A.k71:=@A.kk 71 32 [.tmp 4] A.b71 (by kernel_rfl) rfl
noncomputable def A.w19:=A.q Tryz.f19
noncomputable def A.lb19_0:=A.ql A.w19 0 []
noncomputable def A.b19:=(fun x0=>A.qb A.w19 [x0]) A.lb19_0
def A.k19:=@A.kk 19 35 [.tmp 6] A.b19 (by kernel_rfl) rfl
noncomputable def A.w14:=A.q Tryz.f14
noncomputable def A.lb14_0:=A.ql A.w14 0 []
noncomputable def A.b14:=(fun x0=>A.qb A.w14 [x0]) A.lb14_0
def A.k14:=@A.kk 14 26 [.tmp 4] A.b14 (by kernel_rfl) rfl
def Yaz{u:V}{l:List Str}(hu:Sl h N u (strs l))(hv:Sl h N v (strs l))(hl:l.length<100000):A.C.call (.func 14 [] []) [u,v] ⟨h,N,w⟩=some (.bool true,⟨h,N,w⟩):=by
 apply Call.eq
 have l1:=hu.len
 have l2:=hv.len
 rw[Zbl]at l1 l2
 rw[Zaa,A.k14 (by simp)]
 simp[A.b14,l1,l2,Zae]
 refine Zag [(4,5),(11,25)] (fun e r st=>st=⟨h,N,[]⟩∧e=.exit 0) (fun m r st=>st=⟨h,N,[]⟩∧∃k,k+m=l.length∧r.get 5=some (.int .i64 k)) l.length ?_ ?_ ?_
 ·exact⟨rfl,0,by omega,by simp⟩
 ·rintro m r _ hr hf ⟨rfl,k,hk,h5⟩
  rw[Zah]
  cases m with
  |zero=>
   obtain rfl:k=l.length:=by omega
   simp[A.lb14_0,hr,hf,h5,l1]
  |succ m=>
   have hlt:k<l.length:=by omega
   obtain⟨s,hs⟩:=Zaf hlt
   obtain⟨i,o,c,e,rw,q1,q2,q3,q4⟩:=hu.at (Zff hs)
   obtain⟨i',o',c',e',rw',p1,p2,p3,p4⟩:=hv.at (Zff hs)
   have hk1:(k:Int)<(l.length:Int):=by omega
   simp(disch:=first|(simp;done)|omega|rfl) [A.lb14_0,hr,hf,h5,l1,l2,hk1,hlt,q1,q2,q3,q4,p1,p2,p3,p4,Zbm,Zae,Zam.chk]
   exact⟨m,by omega,k+1,by omega,by simp⟩
 ·rintro _ r _ hr ⟨rfl,rfl⟩
  simp[hr]
def Zl4(s:Str):Bool:=decide (s.length≤24)
def Zev(k n:Nat):Bool:=decide (k≤n∨64<k∧k≤66)
def Zbb(n:Nat)(l:List Str):Bool:=Zev l.length n&&l.all Zl4
def Zwm{k:Nat}(h:Zev k n=true)(hn:n<64):k≤66:=by
 simp[Zev]at h
 omega
def Zrf{l:List Str}(hs:Sl h N v (strs l))(hl:l.length<9223372036854775808)(hn:n<64):A.C.call (.func 71 [] []) [v,.int .i64 n] ⟨h,N,w⟩=some (.bool (Zbb n l),⟨h,N,w⟩):=by
 apply Call.eq
 have lg:=hs.len
 rw[Zbl]at lg
 rw[Zaa,A.k71 (by simp)]
 have fin:Zev l.length n=true→Zbb n l=l.all Zl4:=fun h=>by simp[Zbb,h]
 by_cases c1:l.length≤n
 ·rw[fin (by simp[Zev,c1])]
  have a1:¬(n:Int)<(l.length:Int):=by omega
  have a2:¬66<(l.length:Int):=by omega
  simp[A.b71,lg,a1,a2]
  refine Zag [(4,5),(20,31)] (fun e r st=>st=⟨h,N,[]⟩∧((e=.exit 0∧l.all Zl4=true)∨(e=.ret∧l.all Zl4=false∧r.get 4=some (.bool false)))) (fun m r st=>st=⟨h,N,[]⟩∧∃k,k+m=l.length∧r.get 5=some (.int .i64 k)∧l.all Zl4=(l.drop k).all Zl4) l.length ?_ ?_ ?_
  ·exact⟨rfl,0,by omega,by simp,by simp⟩
  ·rintro m r _ hr hf ⟨rfl,k,hk,hx,hz⟩
   rw[Zah]
   cases m with
   |zero=>
    obtain rfl:k=l.length:=by omega
    rw[Yvu,List.all_nil]at hz
    simp[A.lb71_0,hr,hf,hx,lg,hz]
   |succ m=>
    have hlt:k<l.length:=by omega
    have hk1:(k:Int)<(l.length:Int):=by omega
    obtain⟨s,hc⟩:=Zaf hlt
    obtain⟨i,o,cc,e,rw,q1,q2,q3,q4⟩:=hs.at (Zff hc)
    rw[Zaq hc,List.all_cons]at hz
    by_cases c4:Zl4 s=true
    ·rw[c4,Bool.true_and]at hz
     have c6:¬24<(s.length:Int):=by simp[Zl4]at c4;omega
     simp(disch:=first|(simp;done)|omega|rfl) [A.lb71_0,hr,hf,hx,lg,hk1,hlt,q1,q2,q3,q4,c6]
     exact⟨m,by omega,k+1,by omega,by simp,hz⟩
    ·have c5:Zl4 s=false:=by simpa using c4
     rw[c5,Yxx]at hz
     have c6:24<(s.length:Int):=by simp[Zl4]at c5;omega
     simp[A.lb71_0,hr,hf,hx,lg,hk1,hlt,q1,q2,q3,q4,c6,hz]
  ·rintro e r _ hr ⟨rfl,⟨rfl,hq⟩|⟨rfl,hq,h2⟩⟩
   ·simp[hr,hq,Ret]
   ·simp[hr,hq,h2,Ret]
 ·have a1:(n:Int)<(l.length:Int):=by omega
  have a1':n<l.length:=by omega
  by_cases c2:l.length≤64
  ·have a3:(l.length:Int)≤64:=by omega
   have e1:Zbb n l=false:=by simp[Zbb,Zev,c1];omega
   simp[A.b71,lg,a1,a1',a3,c2,e1]
  ·have a3:¬(l.length:Int)≤64:=by omega
   by_cases c3:66<l.length
   ·have a4:66<(l.length:Int):=by omega
    have e1:Zbb n l=false:=by simp[Zbb,Zev,c1];omega
    simp[A.b71,lg,a1,a1',a3,c2,a4,c3,e1]
   ·have a4:¬66<(l.length:Int):=by omega
    rw[fin (by simp[Zev];omega)]
    simp[A.b71,lg,a1,a1',a3,c2,a4,c3]
    refine Zag [(4,5),(20,31)] (fun e r st=>st=⟨h,N,[]⟩∧((e=.exit 0∧l.all Zl4=true)∨(e=.ret∧l.all Zl4=false∧r.get 4=some (.bool false)))) (fun m r st=>st=⟨h,N,[]⟩∧∃k,k+m=l.length∧r.get 5=some (.int .i64 k)∧l.all Zl4=(l.drop k).all Zl4) l.length ?_ ?_ ?_
    ·exact⟨rfl,0,by omega,by simp,by simp⟩
    ·rintro m r _ hr hf ⟨rfl,k,hk,hx,hz⟩
     rw[Zah]
     cases m with
     |zero=>
      obtain rfl:k=l.length:=by omega
      rw[Yvu,List.all_nil]at hz
      simp[A.lb71_0,hr,hf,hx,lg,hz]
     |succ m=>
      have hlt:k<l.length:=by omega
      have hk1:(k:Int)<(l.length:Int):=by omega
      obtain⟨s,hc⟩:=Zaf hlt
      obtain⟨i,o,cc,e,rw,q1,q2,q3,q4⟩:=hs.at (Zff hc)
      rw[Zaq hc,List.all_cons]at hz
      by_cases c4:Zl4 s=true
      ·rw[c4,Bool.true_and]at hz
       have c6:¬24<(s.length:Int):=by simp[Zl4]at c4;omega
       simp(disch:=first|(simp;done)|omega|rfl) [A.lb71_0,hr,hf,hx,lg,hk1,hlt,q1,q2,q3,q4,c6]
       exact⟨m,by omega,k+1,by omega,by simp,hz⟩
      ·have c5:Zl4 s=false:=by simpa using c4
       rw[c5,Yxx]at hz
       have c6:24<(s.length:Int):=by simp[Zl4]at c5;omega
       simp[A.lb71_0,hr,hf,hx,lg,hk1,hlt,q1,q2,q3,q4,c6,hz]
    ·rintro e r _ hr ⟨rfl,⟨rfl,hq⟩|⟨rfl,hq,h2⟩⟩
     ·simp[hr,hq,Ret]
     ·simp[hr,hq,h2,Ret]
def MtS(h:T O)(N:Nat)(v:V)(m:List (List Str)):Prop:=∃us:List V,Sl h N v us∧us.length=m.length∧∀(j:Nat) (l:List Str),m[j]?=some l→∃u,us[j]?=some u∧Sl h N u (strs l)
def MtS.keep{h':T O}{N':Nat}(s:MtS h N v m)(k:Keeps h N h' N'):MtS h' N' v m:=by
 obtain⟨us,h1,h2,h3⟩:=s
 refine⟨us,h1.keep k,h2,fun j l hl=>?_⟩
 obtain⟨u,g1,g2⟩:=h3 j l hl
 exact⟨u,g1,g2.keep k⟩
def MtS.len(s:MtS h N v m):Zom v=some m.length:=by
 obtain⟨us,h1,h2,_⟩:=s
 rw[h1.len,h2]
def MtS.at(s:MtS h N v m){j:Nat}{l:List Str}(hj:m[j]?=some l):∃i o c e rw u,Zlb v=some (i,o)∧i<N∧h.get i=some (.cells c e rw)∧c[o+j]?=some u∧Sl h N u (strs l):=by
 obtain⟨us,h1,h2,h3⟩:=s
 obtain⟨u,g1,g2⟩:=h3 j l hj
 obtain⟨i,o,c,e,rw,q1,q2,q3,q4⟩:=h1.at g1
 exact⟨i,o,c,e,rw,u,q1,q2,q3,q4,g2⟩
def MtS.txm{m:List (List Rat)}(s:MtS h N v (m.map fun l=>l.map Zas)):TxM h N v m:=by
 obtain⟨us,h1,h2,h3⟩:=s
 refine⟨us,h1,by simpa using h2,fun j l hl=>?_⟩
 exact h3 j (l.map Zas) (by simp[hl])
def Zdv(r c:Nat)(m:List (List Str)):Bool:=Zev m.length r&&m.all (Zbb c)
def Yf2{l:List (List Str)}{p:Nat}(hs:MtS h N v l)(hl:l.length<9223372036854775808)(hx0:∀x∈l,x.length<9223372036854775808)(hn:n<64)(hp:p<64):A.C.call (.func 19 [] []) [v,.int .i64 n,.int .i64 p] ⟨h,N,w⟩=some (.bool (Zdv n p l),⟨h,N,w⟩):=by
 apply Call.eq
 have lg:=hs.len
 rw[Zaa,A.k19 (by simp)]
 have fin:Zev l.length n=true→Zdv n p l=l.all (Zbb p):=fun h=>by simp[Zdv,h]
 by_cases c1:l.length≤n
 ·rw[fin (by simp[Zev,c1])]
  have a1:¬(n:Int)<(l.length:Int):=by omega
  have a2:¬66<(l.length:Int):=by omega
  simp[A.b19,lg,a1,a2]
  refine Zag [(6,7),(22,34)] (fun e r st=>st=⟨h,N,[]⟩∧((e=.exit 0∧l.all (Zbb p)=true)∨(e=.ret∧l.all (Zbb p)=false∧r.get 6=some (.bool false)))) (fun m r st=>st=⟨h,N,[]⟩∧∃k,k+m=l.length∧r.get 7=some (.int .i64 k)∧l.all (Zbb p)=(l.drop k).all (Zbb p)) l.length ?_ ?_ ?_
  ·exact⟨rfl,0,by omega,by simp,by simp⟩
  ·rintro m r _ hr hf ⟨rfl,k,hk,hx,hz⟩
   rw[Zah]
   cases m with
   |zero=>
    obtain rfl:k=l.length:=by omega
    rw[Yvu,List.all_nil]at hz
    simp[A.lb19_0,hr,hf,hx,lg,hz]
   |succ m=>
    have hlt:k<l.length:=by omega
    have hk1:(k:Int)<(l.length:Int):=by omega
    obtain⟨s,hc⟩:=Zaf hlt
    obtain⟨i,o,cc,e,rw,u,q1,q2,q3,q4,q5⟩:=hs.at hc
    have hsl:=fun w=>Zrf (w:=w) q5 (hx0 s (Yux hc)) hp
    rw[Zaq hc,List.all_cons]at hz
    by_cases c4:(Zbb p) s=true
    ·rw[c4,Bool.true_and]at hz
     simp(disch:=first|(simp;done)|omega|rfl) [A.lb19_0,hr,hf,hx,lg,hk1,hlt,q1,q2,q3,q4,hsl,c4]
     exact⟨m,by omega,k+1,by omega,by simp,hz⟩
    ·have c5:(Zbb p) s=false:=by simpa using c4
     rw[c5,Yxx]at hz
     simp[A.lb19_0,hr,hf,hx,lg,hk1,hlt,q1,q2,q3,q4,hsl,c5,hz]
  ·rintro e r _ hr ⟨rfl,⟨rfl,hq⟩|⟨rfl,hq,h2⟩⟩
   ·simp[hr,hq,Ret]
   ·simp[hr,hq,h2,Ret]
 ·have a1:(n:Int)<(l.length:Int):=by omega
  have a1':n<l.length:=by omega
  by_cases c2:l.length≤64
  ·have a3:(l.length:Int)≤64:=by omega
   have e1:Zdv n p l=false:=by simp[Zdv,Zev,c1];omega
   simp[A.b19,lg,a1,a1',a3,c2,e1]
  ·have a3:¬(l.length:Int)≤64:=by omega
   by_cases c3:66<l.length
   ·have a4:66<(l.length:Int):=by omega
    have e1:Zdv n p l=false:=by simp[Zdv,Zev,c1];omega
    simp[A.b19,lg,a1,a1',a3,c2,a4,c3,e1]
   ·have a4:¬66<(l.length:Int):=by omega
    rw[fin (by simp[Zev];omega)]
    simp[A.b19,lg,a1,a1',a3,c2,a4,c3]
    refine Zag [(6,7),(22,34)] (fun e r st=>st=⟨h,N,[]⟩∧((e=.exit 0∧l.all (Zbb p)=true)∨(e=.ret∧l.all (Zbb p)=false∧r.get 6=some (.bool false)))) (fun m r st=>st=⟨h,N,[]⟩∧∃k,k+m=l.length∧r.get 7=some (.int .i64 k)∧l.all (Zbb p)=(l.drop k).all (Zbb p)) l.length ?_ ?_ ?_
    ·exact⟨rfl,0,by omega,by simp,by simp⟩
    ·rintro m r _ hr hf ⟨rfl,k,hk,hx,hz⟩
     rw[Zah]
     cases m with
     |zero=>
      obtain rfl:k=l.length:=by omega
      rw[Yvu,List.all_nil]at hz
      simp[A.lb19_0,hr,hf,hx,lg,hz]
     |succ m=>
      have hlt:k<l.length:=by omega
      have hk1:(k:Int)<(l.length:Int):=by omega
      obtain⟨s,hc⟩:=Zaf hlt
      obtain⟨i,o,cc,e,rw,u,q1,q2,q3,q4,q5⟩:=hs.at hc
      have hsl:=fun w=>Zrf (w:=w) q5 (hx0 s (Yux hc)) hp
      rw[Zaq hc,List.all_cons]at hz
      by_cases c4:(Zbb p) s=true
      ·rw[c4,Bool.true_and]at hz
       simp(disch:=first|(simp;done)|omega|rfl) [A.lb19_0,hr,hf,hx,lg,hk1,hlt,q1,q2,q3,q4,hsl,c4]
       exact⟨m,by omega,k+1,by omega,by simp,hz⟩
      ·have c5:(Zbb p) s=false:=by simpa using c4
       rw[c5,Yxx]at hz
       simp[A.lb19_0,hr,hf,hx,lg,hk1,hlt,q1,q2,q3,q4,hsl,c5,hz]
    ·rintro e r _ hr ⟨rfl,⟨rfl,hq⟩|⟨rfl,hq,h2⟩⟩
     ·simp[hr,hq,Ret]
     ·simp[hr,hq,h2,Ret]
variable {N:Nat} {h:T O} {v:V}
noncomputable def A.w53:=A.q Tryz.f53
noncomputable def A.lb53_0:=A.ql A.w53 0 []
noncomputable def A.b53:=(fun x0=>A.qb A.w53 [x0]) A.lb53_0
def A.k53:=@A.kk 53 19 [.tmp 2] A.b53 (by kernel_rfl) rfl
noncomputable def A.b10:=A.q Tryz.f10
def A.k10:=@A.kk 10 11 [.tmp 4] A.b10 (by kernel_rfl) rfl
noncomputable def A.w72:=A.q Tryz.f72
noncomputable def A.lb72_0:=A.ql A.w72 0 []
noncomputable def A.b72:=(fun x0=>A.qb A.w72 [x0]) A.lb72_0
def A.k72:=@A.kk 72 49 [.tmp 6] A.b72 (by kernel_rfl) rfl
def Ynl{l:List Str}(hs:Sl h N v (strs l))(hl:l.length<100000)(hf0:∀s∈l,s.length≤100000):Fn A.C 53 [v] h N (fun u _ _=>u=.int .i64 (Zal (l.map fun s=>((chkNum s:Nat):Int)))):=by
 intro w
 have hlen:=hs.len
 rw[Zbl]at hlen
 rw[Zaa,A.k53 (by simp)]
 simp[A.b53]
 refine Zag [(2,18)] (fun e r st=>oldIds N st.w=[]∧Keeps h N st.h st.n∧((e=.exit 0∧Zal (l.map fun s=>((chkNum s:Nat):Int))=0)∨(e=.ret∧r.get 2=some (.int .i64 (Zal (l.map fun s=>((chkNum s:Nat):Int))))))) (fun m r st=>oldIds N st.w=[]∧Keeps h N st.h st.n∧∃k,k+m=l.length∧r.get 3=some (.int .i64 k)∧Zal (l.map fun s=>((chkNum s:Nat):Int))=Zal ((l.drop k).map fun s=>((chkNum s:Nat):Int))) l.length ?_ ?_ ?_
 ·exact⟨by simp,Keeps.refl,0,by omega,by simp,by simp⟩
 ·rintro m r ⟨H,n1,W⟩ hr hf ⟨hW,hK,k,hk,h7,hz⟩
  simp only at hW hK
  rw[Zah]
  cases m with
  |zero=>
   obtain rfl:k=l.length:=by omega
   rw[Yvu,Yxd,Zal]at hz
   simp[A.lb53_0,hr,hf,h7,hlen,hz,hW,hK]
  |succ m=>
   have hlt:k<l.length:=by omega
   obtain⟨s,hc⟩:=Zaf hlt
   obtain⟨i,o,cc,e,rw,q1,q2,q3,q4⟩:=(hs.keep hK).at (Zff hc)
   rw[Zaq hc,Yvq,Zal]at hz
   have hk1:(k:Int)<(l.length:Int):=by omega
   simp[A.lb53_0,hr,hf,h7,hk1,hlt,hlen,q1,q3,q4]
   refine Zab (Zro (hf0 s (Yux hc))) ?_
   rintro _ h3 n3 k3 rfl
   have kk:=hK.trans k3
   by_cases h0:chkNum s=0
   ·rw[Yuu (by omega)]at hz
    simp(disch:=first|(simp;done)|omega|rfl) [hr,hf,h7,h0,hW,Zae]
    exact⟨m,by omega,kk,k+1,by omega,by simp,by simpa using hz⟩
   ·rw[Yur (by omega)]at hz
    have h0':¬((chkNum s:Nat):Int)=0:=by omega
    simp[hr,hf,h7,h0,h0',hW,Zae,hz]
    exact kk
 ·rintro _ r ⟨H,n1,W⟩ hr ⟨hW,hK,⟨rfl,hz⟩|⟨rfl,h2⟩⟩
  ·simp only at hW hK
   simp[hr,hz,Ret,hW,hK]
  ·simp only at hW hK
   simp[hr,h2,Ret,hW,hK]
def Zdh(l:List Str)(n:Nat):Int:=if l.length=n then Zal (l.map fun s=>((chkNum s:Nat):Int)) else 2
def hdL(l:List (List Str)):Nat:=(l[0]?.getD []).length
def Zku(l:List (List Str))(r c:Nat):Int:=if l.length=0∨hdL l=0 then 12 else if r<l.length∨c<hdL l then 5 else Zal (l.map fun x=>Zdh x (hdL l))
def Zqv{l:List Str}{n:Nat}(hs:Sl h N v (strs l))(hl:l.length<100000)(hf0:∀s∈l,s.length≤100000):Fn A.C 10 [v,.int .i64 n] h N (fun u _ _=>u=.int .i64 (Zdh l n)):=by
 intro w
 have hlen:=hs.len
 rw[Zbl]at hlen
 rw[Zaa,A.k10 (by simp)]
 by_cases c:l.length=n
 ·subst c
  simp[A.b10,hlen,Zae]
  refine Zab (Ynl hs hl hf0) ?_
  rintro _ H2 n2 k2 rfl
  simp[Ret,Zdh]
  exact k2
 ·have c':¬(l.length:Int)=(n:Int):=by omega
  simp[A.b10,hlen,c',Zdh,c,Ret,Zae]
  exact Keeps.refl
def Yno{l:List (List Str)}{a b:Nat}(hs:MtS h N v l)(hl:l.length<100000)(hx:∀x∈l,x.length<100000∧∀s∈x,s.length≤100000):Fn A.C 72 [v,.int .i64 a,.int .i64 b] h N (fun u _ _=>u=.int .i64 (Zku l a b)):=by
 intro w
 have hlen:=hs.len
 rw[Zaa,A.k72 (by simp)]
 by_cases c0:l.length=0
 ·have c0':(l.length:Int)=0:=by omega
  simp[A.b72,hlen,c0,c0',Zku,Ret,Zae]
  exact Keeps.refl
 have c0':¬(l.length:Int)=0:=by omega
 have cpos:0<l.length:=by omega
 have cpos':0<(l.length:Int):=by omega
 obtain⟨l0,hl0⟩:=Zaf cpos
 obtain⟨i0,o0,cc0,e0,rw0,u0,z1,z2,z3,z4,z5⟩:=hs.at hl0
 have z6:=z5.len
 rw[Zbl]at z6
 rw[Yv7]at z4
 obtain⟨n,hn⟩:∃n,n=l0.length:=⟨_,rfl⟩
 have en:hdL l=n:=by simp[hdL,hl0,hn]
 rw[←hn]at z6
 have hn1:n<100000:=by have:=(hx l0 (Yux hl0)).1;omega
 by_cases c1:n=0
 ·have c1':(n:Int)=0:=by omega
  simp[A.b72,hlen,c0,c0',cpos,cpos',z1,z2,z3,z4,z6,c1,c1',Zku,en,Ret,Zae]
  exact Keeps.refl
 have c1':¬(n:Int)=0:=by omega
 by_cases c2:a<l.length
 ·have c2':(a:Int)<(l.length:Int):=by omega
  simp[A.b72,hlen,c0,c0',cpos,cpos',z1,z2,z3,z4,z6,c1,c1',c2,c2',Zku,en,Ret,Zae]
  exact Keeps.refl
 have c2':¬(a:Int)<(l.length:Int):=by omega
 by_cases c3:b<n
 ·have c3':(b:Int)<(n:Int):=by omega
  simp[A.b72,hlen,c0,c0',cpos,cpos',z1,z2,z3,z4,z6,c1,c1',c2,c2',c3,c3',Zku,en,Ret,Zae]
  exact Keeps.refl
 ·have c3':¬(b:Int)<(n:Int):=by omega
  have e1:Zku l a b=Zal (l.map fun x=>Zdh x n):=by simp[Zku,en,c0,c1,c2,c3]
  rw[e1]
  simp[A.b72,hlen,c0,c0',cpos,cpos',z1,z2,z3,z4,z6,c1,c1',c2,c2',c3,c3',Ret,Zae]
  refine Zag [(6,8),(31,48)] (fun e r st=>oldIds N st.w=[]∧Keeps h N st.h st.n∧((e=.exit 0∧Zal (l.map fun x=>Zdh x n)=0)∨(e=.ret∧r.get 6=some (.int .i64 (Zal (l.map fun x=>Zdh x n)))))) (fun m r st=>oldIds N st.w=[]∧Keeps h N st.h st.n∧∃k,k+m=l.length∧r.get 7=some (.int .i64 k)∧Zal (l.map fun x=>Zdh x n)=Zal ((l.drop k).map fun x=>Zdh x n)) l.length ?_ ?_ ?_
  ·exact⟨by simp,Keeps.refl,0,by omega,by simp,by simp⟩
  ·rintro m r ⟨H,n1,W⟩ hr hf ⟨hW,hK,k,hk,h7,hz⟩
   simp only at hW hK
   rw[Zah]
   cases m with
   |zero=>
    obtain rfl:k=l.length:=by omega
    rw[Yvu,Yxd,Zal]at hz
    simp[A.lb72_0,hr,hf,h7,hlen,hz,hW,hK]
   |succ m=>
    have hlt:k<l.length:=by omega
    obtain⟨s,hc⟩:=Zaf hlt
    obtain⟨i,o,cc,e,rw,u,q1,q2,q3,q4,q5⟩:=(hs.keep hK).at hc
    rw[Zaq hc,Yvq,Zal]at hz
    have hk1:(k:Int)<(l.length:Int):=by omega
    obtain⟨i1,o1,cc1,e1,rw1,u1,y1,y2,y3,y4,y5⟩:=(hs.keep hK).at hl0
    have y6:=y5.len
    rw[Zbl,←hn]at y6
    rw[Yv7]at y4
    obtain⟨rfl,rfl⟩:i=i1∧o=o1:=by rw[q1]at y1;simpa using y1
    obtain⟨rfl,rfl,rfl⟩:cc=cc1∧e=e1∧rw=rw1:=by rw[q3]at y3;simpa using y3
    simp[A.lb72_0,hr,hf,h7,hk1,hlt,hlen,q1,q2,q3,q4,cpos,cpos',y4,y6]
    refine Zab (Zqv q5 (hx s (Yux hc)).1 (hx s (Yux hc)).2) ?_
    rintro _ h3 n3 k3 rfl
    have kk:=hK.trans k3
    by_cases h0:Zdh s n=0
    ·rw[Yuu h0]at hz
     simp(disch:=first|(simp;done)|omega|rfl) [hr,hf,h7,h0,hW,Zae]
     exact⟨m,by omega,kk,k+1,by omega,by simp,by simpa using hz⟩
    ·rw[Yur h0]at hz
     simp[hr,hf,h7,h0,hW,Zae,hz]
     exact kk
  ·rintro _ r ⟨H,n1,W⟩ hr ⟨hW,hK,⟨rfl,hz⟩|⟨rfl,h2⟩⟩
   ·simp only at hW hK
    simp[hr,hz,Ret,hW,hK]
   ·simp only at hW hK
    simp[hr,h2,Ret,hW,hK]
def Zdw(l:List Rat):Bool:=l.any Zxf
noncomputable def A.w105:=A.q Tryz.f105
noncomputable def A.lb105_0:=A.ql A.w105 0 []
noncomputable def A.b105:=(fun x0=>A.qb A.w105 [x0]) A.lb105_0
def A.k105:=@A.kk 105 21 [.tmp 4] A.b105 (by kernel_rfl) rfl
noncomputable def A.b48:=A.q Tryz.f48
def A.k48:=@A.kk 48 11 [.tmp 4] A.b48 (by kernel_rfl) rfl
def Ym9{h:T O}{N:Nat}{v f:V}{l:List Str}(P:Str→Int)(hs:Sl h N v (strs l))(hl:l.length<100000)(hf:∀s∈l,∀h' n',Keeps h N h' n'→FnV A.C f [.str s] h' n' (fun u _ _=>u=.int .i64 (P s))):Fn A.C 105 [v,f] h N (fun u _ _=>u=.int .i64 (Zal (l.map P))):=by
 intro w
 have hlen:=hs.len
 rw[Zbl]at hlen
 rw[Zaa,A.k105 (by simp)]
 simp[A.b105,hlen]
 refine Zag [(4,4),(6,7),(10,20)] (fun e r st=>oldIds N st.w=[]∧Keeps h N st.h st.n∧((e=.exit 0∧Zal (l.map P)=0)∨(e=.ret∧r.get 4=some (.int .i64 (Zal (l.map P)))))) (fun m r st=>oldIds N st.w=[]∧Keeps h N st.h st.n∧∃k,k+m=l.length∧r.get 10=some (.int .i64 k)∧Zal (l.map P)=Zal ((l.drop k).map P)) l.length ?_ ?_ ?_
 ·exact⟨by simp,Keeps.refl,0,by omega,by simp,by simp⟩
 ·rintro m r ⟨H,n1,W⟩ hr hf2 ⟨hW,hK,k,hk,h7,hz⟩
  simp only at hW hK
  rw[Zah]
  cases m with
  |zero=>
   obtain rfl:k=l.length:=by omega
   rw[Yvu,Yxd,Zal]at hz
   simp[A.lb105_0,hr,hf2,h7,hz,hW,hK]
  |succ m=>
   have hlt:k<l.length:=by omega
   obtain⟨s,hc⟩:=Zaf hlt
   obtain⟨i,o,cc,e,rw,q1,q2,q3,q4⟩:=(hs.keep hK).at (Zff hc)
   rw[Zaq hc,Yvq,Zal]at hz
   have hk1:(k:Int)<(l.length:Int):=by omega
   simp[A.lb105_0,hr,hf2,h7,hk1,hlt,hlen,q1,q2,q3,q4]
   refine Zgh (hf s (Yux hc) _ _ hK) ?_
   rintro _ h3 n3 k3 rfl
   have kk:=hK.trans k3
   by_cases h0:P s=0
   ·rw[Yuu h0]at hz
    simp(disch:=first|(simp;done)|omega|rfl) [hr,hf2,h7,h0,hW,Zae]
    exact⟨m,by omega,kk,k+1,by omega,by simp,by simpa using hz⟩
   ·rw[Yur h0]at hz
    simp[hr,hf2,h7,h0,hW,Zae,hz]
    exact kk
 ·rintro _ r ⟨H,n1,W⟩ hr ⟨hW,hK,⟨rfl,hz⟩|⟨rfl,h2⟩⟩
  ·simp only at hW hK
   simp[hr,hz,Ret,hW,hK]
  ·simp only at hW hK
   simp[hr,h2,Ret,hW,hK]
def Zm4{h:T O}{N:Nat}{v:V}{l:List Str}{n:Nat}(hs:Sl h N v (strs l))(hl:l.length<100000)(hf0:∀s∈l,s.length≤100000):Fn A.C 48 [v,.int .i64 n] h N (fun u _ _=>u=.int .i64 (Zdh l n)):=by
 intro w
 have hlen:=hs.len
 rw[Zbl]at hlen
 rw[Zaa,A.k48 (by simp)]
 by_cases c:l.length=n
 ·subst c
  simp[A.b48,hlen,Zae]
  refine Zab (Ym9 (fun s=>((chkNum s:Nat):Int)) hs hl fun s hs h' n' _=>Zw7 (hf0 s hs)) ?_
  rintro _ H2 n2 k2 rfl
  simp[Ret,Zdh]
  exact k2
 ·have c':¬(l.length:Int)=(n:Int):=by omega
  simp[A.b48,hlen,c',Zdh,c,Ret,Zae]
  exact Keeps.refl
variable {N:Nat} {h:T O} {l:List (List Str)} {v:V}
set_option maxHeartbeats 1000000
noncomputable def A.b186:=A.q Tryz.f186
def A.k186:=@A.kk 186 10 [.cell 2 (some 2)] A.b186 (by kernel_rfl) rfl
noncomputable def A.w126:=A.q Tryz.f126
noncomputable def A.lb126_0:=A.ql A.w126 0 []
noncomputable def A.b126:=(fun x0=>A.qb A.w126 [x0]) A.lb126_0
def A.k126:=@A.kk 126 47 [.tmp 4] A.b126 (by kernel_rfl) rfl
noncomputable def A.b46:=A.q Tryz.f46
def A.k46:=@A.kk 46 6 [.tmp 2] A.b46 (by kernel_rfl) rfl
def Yf0{l0:List Str}(hs:MtS h N v l)(h0:l[0]?=some l0):Fn A.C 186 [v] h N (fun u _ _=>u=.agg [.int .i64 l.length,.int .i64 l0.length]):=by
 intro w
 have hlen:=hs.len
 have cpos:0<l.length:=Zaz h0
 have cpos':0<(l.length:Int):=by omega
 obtain⟨i0,o0,cc0,e0,rw0,u0,z1,z2,z3,z4,z5⟩:=hs.at h0
 have z6:=z5.len
 rw[Zbl]at z6
 rw[Yv7]at z4
 have d1:¬i0=N:=by omega
 have d2:¬N=i0:=by omega
 rw[Zaa,A.k186 (by simp)]
 simp[A.b186,hlen,cpos,cpos',z1,z2,z3,z4,z6,d1,d2,splice,Zak,Zaj,slc,Ret]
 exact(Keeps.refl.new _).set (Yus _)
def Ygp{a b:Nat}(hs:MtS h N v l)(hl:l.length<100000)(hx:∀x∈l,x.length<100000∧∀s∈x,s.length≤100000):Fn A.C 126 [v,.agg [.int .i64 a,.int .i64 b]] h N (fun u _ _=>u=.int .i64 (Zku l a b)):=by
 intro w
 have hlen:=hs.len
 rw[Zaa,A.k126 (by simp)]
 by_cases c0:l.length=0
 ·have c0':(l.length:Int)=0:=by omega
  simp[A.b126,hlen,c0,c0',Zku,Ret,Zae]
  exact Keeps.refl.new _
 have c0':¬(l.length:Int)=0:=by omega
 have cpos:0<l.length:=by omega
 have cpos':0<(l.length:Int):=by omega
 obtain⟨l0,hl0⟩:=Zaf cpos
 obtain⟨i0,o0,cc0,e0,rw0,u0,z1,z2,z3,z4,z5⟩:=hs.at hl0
 have z6:=z5.len
 rw[Zbl]at z6
 rw[Yv7]at z4
 obtain⟨n,hn⟩:∃n,n=l0.length:=⟨_,rfl⟩
 have en:hdL l=n:=by simp[hdL,hl0,hn]
 rw[←hn]at z6
 have hn1:n<100000:=by have:=(hx l0 (Yux hl0)).1;omega
 have d1:¬i0=N:=by omega
 have d2:¬N=i0:=by omega
 by_cases c1:n=0
 ·have c1':(n:Int)=0:=by omega
  simp[A.b126,hlen,c0,c0',cpos,cpos',z1,z2,z3,z4,z6,d1,d2,c1,c1',Zku,en,Ret,Zae]
  exact Keeps.refl.new _
 have c1':¬(n:Int)=0:=by omega
 have e1:Zku l a b=if a<l.length∨b<n then 5 else Zal (l.map fun x=>Zdh x n):=by simp[Zku,en,c0,c1]
 rw[e1]
 simp[A.b126,hlen,c0,c0',cpos,cpos',z1,z2,z3,z4,z6,d1,d2,c1,c1',Zae]
 generalize hH:h.set N (.cells [.int .i64 a,.int .i64 b] 150 true)=H
 have k1:Keeps h N H (N+1):=by rw[←hH];exact Keeps.refl.new _
 have g1:H.get N=some (.cells [.int .i64 a,.int .i64 b] 150 true):=by rw[←hH];simp
 clear hH
 refine Zab (Yf0 (hs.keep k1) hl0) ?_
 rintro _ H2 n2 k2 rfl
 rw[←hn]
 have kl2:=k2.le
 have g2:=(k2.get N (by omega)).trans g1
 have d3:¬N=n2:=by omega
 have d4:¬n2=N:=by omega
 have kz:Keeps h N ((H2.set n2 (.cells [.int .i64 0,.int .i64 0] 150 true)).set n2 (.cells [.int .i64 l.length,.int .i64 n] 150 true)) (n2+1):=((k1.trans k2).new _).set (by omega)
 by_cases c2:a<l.length
 ·have c2':(a:Int)<(l.length:Int):=by omega
  simp[hlen,g2,d3,d4,splice,Zak,Zaj,slc,c2,c2',Ret,Zae]
  exact⟨by omega,kz⟩
 have c2':¬(a:Int)<(l.length:Int):=by omega
 by_cases c3:b<n
 ·have c3':(b:Int)<(n:Int):=by omega
  simp[hlen,g2,d3,d4,splice,Zak,Zaj,slc,c2,c2',c3,c3',Ret,Zae]
  exact⟨by omega,kz⟩
 have c3':¬(b:Int)<(n:Int):=by omega
 simp[hlen,g2,d3,d4,splice,Zak,Zaj,slc,c2,c2',c3,c3',Ret,Zae]
 generalize hH3:(H2.set n2 (.cells [.int .i64 0,.int .i64 0] 150 true)).set n2 (.cells [.int .i64 l.length,.int .i64 n] 150 true)=H3 at*
 have g3:H3.get n2=some (.cells [.int .i64 l.length,.int .i64 n] 150 true):=by rw[←hH3];simp
 clear hH3
 have kd:Keeps H3 (n2+1) H3 (n2+1):=Keeps.refl
 refine Zag [(4,4),(7,8),(35,46)] (fun e r st=>oldIds N st.w=[]∧Keeps h N st.h st.n∧((e=.exit 0∧Zal (l.map (fun x=>Zdh x n))=0)∨(e=.ret∧r.get 4=some (.int .i64 (Zal (l.map (fun x=>Zdh x n))))))) (fun m r st=>oldIds N st.w=[]∧Keeps h N st.h st.n∧(n2<st.n∧st.h.get n2=H3.get n2)∧∃k,k+m=l.length∧r.get 35=some (.int .i64 k)∧Zal (l.map (fun x=>Zdh x n))=Zal ((l.drop k).map (fun x=>Zdh x n))) l.length ?_ ?_ ?_
 ·exact⟨by simp;omega,kz,⟨by simp,rfl⟩,0,by omega,by simp,by simp⟩
 ·rintro m r ⟨H,n1,W⟩ hr hf2 ⟨hW,hK,⟨hlt2,hG⟩,k,hk,h7,hz⟩
  simp only at hW hK hlt2 hG
  rw[Zah]
  cases m with
  |zero=>
   obtain rfl:k=l.length:=by omega
   rw[Yvu,Yxd,Zal]at hz
   simp[A.lb126_0,hr,hf2,h7,hz,hW,hK]
  |succ m=>
   have hlt:k<l.length:=by omega
   obtain⟨s,hc⟩:=Zaf hlt
   obtain⟨i,o,cc,e,rw,u,q1,q2,q3,q4,q5⟩:=(hs.keep hK).at hc
   have g4:=hG.trans g3
   rw[Zaq hc,Yvq,Zal]at hz
   have hk1:(k:Int)<(l.length:Int):=by omega
   simp[A.lb126_0,hr,hf2,h7,hk1,hlt,hlen,q1,q2,q3,q4,g4,hlt2]
   refine Zab (Zm4 q5 (hx s (Yux hc)).1 (hx s (Yux hc)).2) ?_
   rintro _ h3 n3 k3 rfl
   have kk:=hK.trans k3
   by_cases h0:Zdh s n=0
   ·rw[Yuu h0]at hz
    simp(disch:=first|(simp;done)|omega|rfl) [hr,hf2,h7,h0,hW,Zae]
    exact⟨m,by omega,kk,⟨by have:=k3.le;omega,(k3.get n2 hlt2).trans hG⟩,k+1,by omega,by simp,by simpa using hz⟩
   ·rw[Yur h0]at hz
    simp[hr,hf2,h7,h0,hW,Zae,hz]
    exact kk
 ·rintro _ r ⟨H,n1,W⟩ hr ⟨hW,hK,⟨rfl,hz⟩|⟨rfl,h2⟩⟩
  ·simp only at hW hK
   simp[hr,hz,Ret,hW,hK]
  ·simp only at hW hK
   simp[hr,h2,Ret,hW,hK]
def Ygq(hs:MtS h N v l)(hl:l.length<100000)(hx:∀x∈l,x.length<100000∧∀s∈x,s.length≤100000):Fn A.C 46 [v] h N (fun u _ _=>u=.int .i64 (Zku l 64 64)):=by
 intro w
 rw[Zaa,A.k46 (by simp)]
 simp[A.b46,splice]
 refine Zab (Ygp (a:=64) (b:=64) hs hl hx) ?_
 rintro _ H2 n2 k2 rfl
 simp[Ret]
 exact k2
variable {N:Nat} {h:T O}
noncomputable def A.w44:=A.q Tryz.f44
noncomputable def A.lb44_0:=A.ql A.w44 0 []
noncomputable def A.b44:=(fun x0=>A.qb A.w44 [x0]) A.lb44_0
def A.k44:=@A.kk 44 18 [.tmp 2] A.b44 (by kernel_rfl) rfl
noncomputable def A.b45:=A.q Tryz.f45
def A.k45:=@A.kk 45 4 [.tmp 1] A.b45 (by kernel_rfl) rfl
noncomputable def A.b47:=A.q Tryz.f47
def A.k47:=@A.kk 47 9 [.tmp 2] A.b47 (by kernel_rfl) rfl
def Zxh{v:V}{fs:List V}{l:List Int}(hs:Sl h N v fs)(hlen0:fs.length=l.length)(hl:l.length<1000)(hf:∀(j:Nat) (f:V) (e:Int),fs[j]?=some f→l[j]?=some e→(∀(i:Nat) (x:Int),i<j→l[i]?=some x→x=0)→∀h' n',Keeps h N h' n'→FnV A.C f [] h' n' (fun u _ _=>u=.int .i64 e)):Fn A.C 44 [v] h N (fun u _ _=>u=.int .i64 (Zal l)):=by
 intro w
 have hlen:=hs.len
 rw[hlen0]at hlen
 rw[Zaa,A.k44 (by simp)]
 simp[A.b44,hlen]
 refine Zag [(2,2),(4,5),(8,17)] (fun e r st=>oldIds N st.w=[]∧Keeps h N st.h st.n∧((e=.exit 0∧Zal l=0)∨(e=.ret∧r.get 2=some (.int .i64 (Zal l))))) (fun m r st=>oldIds N st.w=[]∧Keeps h N st.h st.n∧∃k,k+m=l.length∧r.get 8=some (.int .i64 k)∧Zal l=Zal (l.drop k)∧∀(i:Nat) (x:Int),i<k→l[i]?=some x→x=0) l.length ?_ ?_ ?_
 ·exact⟨by simp,Keeps.refl,0,by omega,by simp,by simp,fun i x hi=>by omega⟩
 ·rintro m r ⟨H,n1,W⟩ hr hf2 ⟨hW,hK,k,hk,h7,hz,h00⟩
  simp only at hW hK
  rw[Zah]
  cases m with
  |zero=>
   obtain rfl:k=l.length:=by omega
   rw[Yvu,Zal]at hz
   simp[A.lb44_0,hr,hf2,h7,hz,hW,hK]
  |succ m=>
   have hlt:k<l.length:=by omega
   obtain⟨s,hc⟩:=Zaf hlt
   obtain⟨f,hfk⟩:=Zaf (show k<fs.length by omega)
   obtain⟨i,o,cc,e,rw,q1,q2,q3,q4⟩:=(hs.keep hK).at hfk
   rw[Zaq hc,Zal]at hz
   have hk1:(k:Int)<(l.length:Int):=by omega
   simp[A.lb44_0,hr,hf2,h7,hk1,hlt,hlen,q1,q2,q3,q4]
   refine Zgh (hf k f s hfk hc h00 _ _ hK) ?_
   rintro _ h3 n3 k3 rfl
   have kk:=hK.trans k3
   by_cases h0:s=0
   ·rw[Yuu h0]at hz
    simp(disch:=first|(simp;done)|omega|rfl) [hr,hf2,h7,h0,hW,Zae]
    refine⟨m,by omega,kk,k+1,by omega,by simp,hz,fun i x hi hx=>?_⟩
    by_cases hik:i<k
    ·exact h00 i x hik hx
    ·obtain rfl:i=k:=by omega
     rw[hc]at hx
     rw[←h0]
     simpa using hx.symm
   ·rw[Yur h0]at hz
    simp[hr,hf2,h7,h0,hW,Zae,hz]
    exact kk
 ·rintro _ r ⟨H,n1,W⟩ hr ⟨hW,hK,⟨rfl,hz⟩|⟨rfl,h2⟩⟩
  ·simp only at hW hK
   simp[hr,hz,Ret,hW,hK]
  ·simp only at hW hK
   simp[hr,h2,Ret,hW,hK]
def Yn3{q:Nat}{u:V}{m:List (List Str)}{l:List Str}{eq:TypeId}{wq:Bool}(hgq:h.get q=some (.cells [u] eq wq))(hlq:q<N)(hs:MtS h N u m)(hml:m.length<100000)(hmx:∀x∈m,x.length<100000∧∀s∈x,s.length≤100000):FnV A.C (.func 45 [] [.ptr q 0]) [] h N (fun z _ _=>z=.int .i64 (Zku m 64 64)):=by
 intro w
 rw[Zaa,A.k45 (by simp)]
 simp[A.b45,hgq]
 refine Zab (Ygq hs hml hmx) ?_
 rintro _ H2 n2 k2 rfl
 simp[Ret]
 exact k2
def Yn2{p q:Nat}{v u:V}{m:List (List Str)}{l:List Str}{ep eq:TypeId}{wp wq:Bool}(hgp:h.get p=some (.cells [v] ep wp))(hlp:p<N)(hgq:h.get q=some (.cells [u] eq wq))(hlq:q<N)(hs:MtS h N u m)(hml:m.length<100000)(hmx:∀x∈m,x.length<100000∧∀s∈x,s.length≤100000)(ht:Sl h N v (strs l))(hll:l.length<100000)(hlx:∀s∈l,s.length≤100000)(m0:0<m.length):FnV A.C (.func 47 [] [.ptr p 0,.ptr q 0]) [] h N (fun z _ _=>z=.int .i64 (Zdh l (hdL m))):=by
 intro w
 have ml:=hs.len
 have cpos':0<(m.length:Int):=by omega
 obtain⟨l0,hl0⟩:=Zaf m0
 obtain⟨i0,o0,cc0,e0,rw0,u0,z1,z2,z3,z4,z5⟩:=hs.at hl0
 have z6:=z5.len
 rw[Zbl]at z6
 rw[Yv7]at z4
 obtain⟨n,hn⟩:∃n,n=l0.length:=⟨_,rfl⟩
 have en:hdL m=n:=by simp[hdL,hl0,hn]
 rw[en]
 rw[←hn]at z6
 rw[Zaa,A.k47 (by simp)]
 simp[A.b47,hgq,hgp,ml,m0,cpos',z1,z2,z3,z4,z6]
 refine Zab (Zm4 ht hll hlx) ?_
 rintro _ H2 n2 k2 rfl
 have kle:=k2.le
 simp[]
 refine(Zij (by simp[-oldIds,hlq,hlp,z2,Zid,Zfx])).2 ?_
 simp[Ret]
 exact k2
end Go.Mx
