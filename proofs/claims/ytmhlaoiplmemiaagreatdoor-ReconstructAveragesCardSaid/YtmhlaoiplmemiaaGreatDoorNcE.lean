/-num-/
import Derived.Test.YtmhlaoiplmemiaaGreatDoorNcB
set_option linter.all false
namespace Go.Mx
open Go Go.Proofs
variable {b nB:Nat} {gs:List Str} {r:T V} {sT:St} {v:V}
set_option maxHeartbeats 4000000
set_option maxRecDepth 1000000
def A.lb176_0:Zaw:=.seq (sr [mv 59 11,bc 60 .geq 59 0]
 (cd 60
 (.skip)
 (.exit 2)))
 (.seq (.block 3 (.reg [mv 63 6,mv 64 11,ia 65 1 63 64,ld 66 65,c2 67 218 10 66]))
 (.reg [mv 61 11,bc 62 .sub 61 1,mv 11 62]))
def A.lb176_1:Zaw:=.seq (sr [mv 24 4,ln 25 24,bc 26 .gtr 25 0]
 (cd 26
 (.skip)
 (.exit 0)))
 (.block 1 (sr [mv 28 4,mv 29 5,c2 30 215 28 29,mv 27 30,xt 31 27 0,xt 32 27 1,mv 7 31,mv 8 32]
 (sr [ge 9 (.mov (.const (.str [48])))]
 (.seq (sr [mv 33 8,ln 34 33,bc 35 .gtr 34 0]
 (cd 35
 (.reg [mv 36 8,ge 37 (.iaddrSl 1 (tq 36) (kq 0)),ld 38 37,ge 39 (.call (fq 216) [tq 38,.const (.int .i64 10)]),mv 9 39])
 (.skip)))
 (.seq (sr [mv 40 7,ln 41 40,bc 42 .gtr 41 0]
 (cd 42
 (.reg [mv 43 9,ge 44 (.len 0 (tq 43)),ge 45 (.bin .sub (.node []) false (kq 18) (tq 44)),ge 46 (.call (fq 217) [(.const (.str [48])),tq 45]),mv 47 9,bi 48 .add 46 47,mv 9 48])
 (.skip)))
 (sr [mv 49 6,mv 50 9,ge 51 (.bslice 9 1 1 [(.str [])] [(0,1,(tq 50))]),ge 52 (.append 1 16 9 [(.str [])] (tq 49) (tq 51)),mv 6 52]
 (.reg [mv 53 7,mv 4 53])))))))
def A.ta176_0:Zaw:=.seq (sr [mv 56 6,ln 57 56,bc 58 .sub 57 1,mv 11 58]
 (.block 2 (.loop A.lb176_0)))
 (sr [c1 68 219 10,mv 2 68]
 (.ret))
def A.b176:Zaw:=sr [bx 1 93 0,ge 2 (.mov (.const (.str [])))]
 (.seq (sr [fa 12 1 1,ld 13 12,ge 14 (.bin .eql (.prim .slice) true (tq 13) (.const .nilslice))]
 (cd 14
 (sr [fa 15 0 1,ld 16 15,c1 17 214 16,mv 2 17]
 (.ret))
 (.skip)))
 (sr [lN 19 2 1,c1 20 196 19,mv 18 20,xt 21 18 0,xt 22 18 1,mv 3 21,mv 4 22]
 (sr [ge 23 (.bslice 200 1 1 [.int .u64 0] [(0,1,(.const (.int .u64 1000000000000000000)))]),mv 5 23]
 (sr [mN 6]
 (.seq (.block 0 (.loop A.lb176_1))
 (sr [ge 10 (.alloc [.nilptr,.nilslice] 222)]
 (.seq (sr [mv 54 3]
 (cd 54
 (.reg [ge 55 (.call (fq 218) [tq 10,(.const (.str [45]))])])
 (.skip)))
 A.ta176_0)))))))
def A.k176:=@A.kk 176 69 [.tmp 2] A.b176 (by kernel_rfl) rfl
def grp(n:Nat):List Str:=if h:n=0 then [] else (if n/1000000000000000000=0 then decN n else Zh8 (n%1000000000000000000) 18)::grp (n/1000000000000000000)
termination_by n
decreasing_by omega
def Zmb:grp 0=[]:=by unfold grp;simp
def Zqm{n:Nat}(h:n≠0):grp n=(if n/1000000000000000000=0 then decN n else Zh8 (n%1000000000000000000) 18)::grp (n/1000000000000000000):=by
 conv=>lhs;unfold grp
 rw[dif_neg h]
def Ymx:∀{n:Nat},n≠0→(grp n).reverse.flatten=decN n:=by
 intro n
 induction n using Nat.strongRecOn with
 |_ n ih=>
  intro h
  rw[Zqm h]
  by_cases h0:n/1000000000000000000=0
  ·rw[Yuu h0,h0,Zmb];simp
  ·rw[Yur h0,List.reverse_cons,List.flatten_append,ih _ (by omega) h0,Zgx h,Zgx h0]
   have e:=Zpo (k:=18) (a:=n/1000000000000000000) (b:=n%1000000000000000000) h0 (Yvx _ (by decide))
   rw[show n/1000000000000000000*10^18+n%1000000000000000000=n by have:=Ywh n 1000000000000000000;omega]at e
   rw[e];simp
def Zsx{a:Nat}(h:a≤b):(Zc1 a).length≤(Zc1 b).length:=Zay.1 (Yvl h (Zay.2 (Yus _)))
def Ydj:∀{n:Nat},(grp n).length≤(Zc1 n).length:=by
 intro n
 induction n using Nat.strongRecOn with
 |_ n ih=>
  by_cases h:n=0
  ·subst h;rw[Zmb];simp
  ·rw[Zqm h,Yuq,Zcg h,Yu8]
   have h1:=ih (n/1000000000000000000) (by omega)
   have h2:=Zsx (a:=n/1000000000000000000) (b:=n/10) (by omega)
   simp;omega
def Yjv:∀{n:Nat} {s:Str},s∈grp n→s≠[]:=by
 intro n
 induction n using Nat.strongRecOn with
 |_ n ih=>
  intro s hs
  by_cases h:n=0
  ·subst h;rw[Zmb]at hs;cases hs
  ·rw[Zqm h]at hs
   rcases Yvt.1 hs with hs|hs
   ·subst hs
    split
    ·exact Zi5 n
    ·intro hc
     have:=Yih (b:=n%1000000000000000000) (k:=18) (Yvx _ (by decide))
     rw[hc]at this;simp at this
   ·exact ih _ (by omega) hs
def Ztp(l:List Str):List (List V):=l.map fun s=>[.str s]
def Yor{q:V}{Q n n':Nat}{h h':T O}{e:TypeId}(hq:Wn h n q Q)(hQ:Q≠0)(hv:Own 1 e nB h n v (Ztp gs))(hh:∀j,j<n→h'.get j=h.get j∨(∃o m c y,v=.slice j o m c y))(hn:n≤n'):Wn h' n' q Q:=by
 obtain⟨d,hd⟩:∃d,(wds Q)[0]?=some d:=by rw[Zbr hQ];exact⟨_,rfl⟩
 rcases hq with⟨hz,_⟩|⟨i,o,cp,c,ee,rw,rfl,q1,q2,q3,q4⟩
 ·rw[Zbr hQ]at hz;simp[dg]at hz
 ·refine .inr ⟨i,o,cp,c,ee,rw,rfl,Yu0 q1 hn,?_,q3,q4⟩
  rcases hh i q1 with h1|⟨o',m,c',y,rfl⟩
  ·rw[h1];exact q2
  ·exfalso
   rcases hv with⟨_,⟨_,h1⟩|⟨i',h1,_,_,h2⟩⟩
   ·cases h1
   ·simp only[V.slice.injEq]at h1
    obtain⟨rfl,_⟩:=h1
    rw[q2]at h2
    simp only[Yup,O.cells.injEq]at h2
    have h3:=q3 0 (by rw[Zac,Zbr hQ];simp)
    rw[Za7 hd,h2.1]at h3
    have:=Yux h3
    obtain⟨l,hl,hx⟩:=List.mem_flatten.1 this
    obtain⟨s,_,rfl⟩:=Yvb.1 hl
    simp at hx
structure StI (hB:T O) (nB M:Nat) (m:Nat) (r:T V) (st:St):Prop where
 w:oldIds nB st.w=[]
 keep:Keeps hB nB st.h st.n
 ex:∃u v gs,r.get 4=some u∧r.get 6=some v∧Zom u=some (wds m).length∧(m≠0→Wn st.h st.n u m)∧Own 1 9 nB st.h st.n v (Ztp gs)∧gs++grp m=grp M
def Yfy{hB:T O}{M m:Nat}{r0:T V}{t:V}(hP:P10 hB nB)(hM:(Zc1 M).length<100000000000)(hm:m≤M)(ht:Wn hB nB t 1000000000000000000)(a5:r.get 5=some t)(hf:Fx [(4,4),(6,9),(24,53)] r0 69 ⟨r,69,[]⟩)(s:StI hB nB M m r sT):
  Code A.C none A.lb176_1 ⟨r,69,[]⟩ sT (Rd [(4,4),(6,9),(24,53)] r0 69 (fun k r st=>k≤M∧StI hB nB M k r st) m (fun e r st=>e=.exit 0∧StI hB nB M 0 r st)):=by
 obtain⟨H,n1,W⟩:=sT
 obtain⟨hW,hK,u,v,gs,a4,a6,lu,hu,ho,hg⟩:=s
 simp only at hW hK hu ho
 rw[Zah]
 by_cases h0:m=0
 ·subst h0
  rw[Zbp]at lu
  simp[A.lb176_1,hf,a4,lu]
  exact⟨hW,hK,u,v,gs,by simp[a4],by simp[a6],by rw[Zbp];exact lu,hu,ho,hg⟩
 ·replace hu:=hu h0
  have lp:0<(wds m).length:=by rw[Zbr h0];simp
  have lp':(0:Int)<((wds m).length:Int):=by omega
  have hwl:(wds m).length<1000000000000:=by
   have h1:=Zfd (n:=m) (k:=(Zc1 M).length) (Zay.2 (Zsx hm))
   unfold wl at h1
   simp at h1
   omega
  have hB0:(wds 1000000000000000000).length<1000000000000:=by rw[Ze4 (by decide) (by decide)];decide
  have hgl:gs.length+(grp m).length≤(Zc1 M).length:=by
   rw[←Yu8,hg];exact Ydj
  have hgp:=Zqm h0
  rw[hgp,Yuq]at hgl
  simp[A.lb176_1,hf,a4,a5,lu,lp,lp']
  refine Zab (Zsr hu (ht.keep hK) (by decide) hwl hB0) ?_
  rintro _ h2 n2 k2 ⟨q,rw0,rfl,hq,hrw⟩
  have lq:=hq.len
  have lr:=hrw.len
  rw[Zac]at lq lr
  have hrl:m%1000000000000000000<18446744073709551616:=by omega
  obtain⟨R,hR⟩:∃R,m%1000000000000000000=R:=⟨_,rfl⟩
  obtain⟨Q,hQ⟩:∃Q,m/1000000000000000000=Q:=⟨_,rfl⟩
  rw[hR]at lr hrw hgp
  rw[hQ]at lq hq hgp hgl
  have kk:=hK.trans k2
  have hp2:=hP.keep kk
  have app:∀(h3:T O) (n3:Nat) (W3:List Nat) (g:Str),Keeps h2 n2 h3 n3→oldIds nB W3=[]→g=(if Q=0 then decN m else Zh8 R 18)→
    ∃v' h' w',Za6 ⟨h3.set n3 (.cells [.str g] 9 true),n3+1,W3⟩ 1 16 9 v (.slice n3 0 1 (some 1) 1)=some (v',⟨h',n3+1+1,w'⟩)∧oldIds nB w'=[]∧Keeps hB nB h' (n3+1+1)∧(Q≠0→Wn h' (n3+1+1) q Q)∧Own 1 9 nB h' (n3+1+1) v' (Ztp (gs++[g]))∧(gs++[g])++grp Q=grp M:=by
   intro h3 n3 W3 g k3 hW3 hge
   have kk3:=kk.trans k3
   have nle:=kk3.le
   have ho3:=(ho.keep (k2.trans k3)).keep (kset Keeps.refl (.cells [.str g] 9 true))
   obtain⟨v',h',w',e1,e2,e3,e4,e5⟩:=Zb6 (x:=[.str g]) (u:=.slice n3 0 1 (some 1) 1) (bytes:=16) (w:=W3) ho3 (by omega) (by decide) rfl (by simp[Zat,St.row,slc]) (by simp[Ztp];omega)
   refine⟨v',h',w',e1,by rw[e2];exact hW3,(kk3.trans (kset Keeps.refl _)).then e3,fun hQ0=>?_,by simpa[Ztp]using e5,by rw[hge,←hg,hgp,Yvz];rfl⟩
   have hq3:=(hq.keep k3).keep (kset Keeps.refl (.cells [.str g] 9 true))
   refine Yor hq3 hQ0 ho3 (fun j hj=>?_) (Yxt _)
   rcases e4 j with h1|h1|h1
   ·exact .inl h1
   ·omega
   ·exact .inr h1
  have f18:((18:Int)-1)=((17:Nat):Int):=rfl
  by_cases hR0:R=0
  ·have hQ0:Q≠0:=by omega
   have lqp:0<(wds Q).length:=by rw[Zbr hQ0];simp
   have lqp':(0:Int)<((wds Q).length:Int):=by omega
   have hge:[48,48,48,48,48,48,48,48,48,48,48,48,48,48,48,48,48,48]=(if Q=0 then decN m else Zh8 R 18):=by rw[Yur hQ0,hR0];unfold Zh8;rw[Zbi];rfl
   rw[hR0,Zbp]at lr
   simp[hf,a4,a5,a6,lq,lr,lqp,lqp']
   refine Zab (Zrn (k:=17) (by decide)) ?_
   rintro _ h3 n3 k3 rfl
   obtain⟨v',h',w',e1,e2,e3,e4,e5,e6⟩:=app h3 n3 W _ k3 hW hge
   simp[hf,a4,a5,a6,lq,lr,lqp,lqp',Zbm,splice,e1]
   exact⟨Q,by omega,by omega,⟨e2,e3,q,v',_,by simp,by simp,lq,e4,e5,e6⟩⟩
  ·have hRw:wds R=[R]:=Ze4 (by unfold B;omega) hR0
   obtain⟨i,o,c,e,wr,p1,p2,p3,p4⟩:=hrw.at (Za7 (l:=wds R) (j:=0) (n:=R) (by rw[hRw];rfl))
   rw[hRw]at lr
   have lr:Zom rw0=some 1:=lr
   have hRd:=Zgx hR0
   rw[Yv7]at p4
   by_cases hQ0:Q=0
   ·have hge:decN R=(if Q=0 then decN m else Zh8 R 18):=by rw[Yuu hQ0];congr 1;omega
    have lqz:(wds Q).length=0:=by rw[hQ0,Zbp];rfl
    rw[lqz]at lq
    simp[hf,a4,a5,a6,lq,lr,p1,p3,p4]
    refine Zab (Yjx (x:=R) (by omega) hp2) ?_
    rintro _ h3 n3 k3 rfl
    obtain⟨v',h',w',e1,e2,e3,e4,e5,e6⟩:=app h3 n3 W _ k3 hW hge
    simp[hf,a4,a5,a6,lq,lr,Zbm,splice,e1]
    exact⟨Q,by omega,by omega,⟨e2,e3,q,v',_,by simp,by simp,by rw[lqz];exact lq,e4,e5,e6⟩⟩
   ·have lqp:0<(wds Q).length:=by rw[Zbr hQ0];simp
    have lqp':(0:Int)<((wds Q).length:Int):=by omega
    have hR18:(Zc1 R).length≤18:=Zay.1 (by omega)
    have hge:List.replicate (18-(decN R).length) 48++decN R=(if Q=0 then decN m else Zh8 R 18):=by rw[Yur hQ0,hRd];rfl
    have hs:(18:Int)-((decN R).length:Int)=((18-(decN R).length:Nat):Int):=by rw[hRd];omega
    have hln:¬(9223372036854775807:Int)<(((List.replicate (18-(decN R).length) (48:UInt8)).length+(decN R).length:Nat):Int):=by rw[List.length_replicate,hRd];omega
    simp[hf,a4,a5,a6,lq,lr,lqp,lqp',p1,p3,p4]
    refine Zab (Yjx (x:=R) (by omega) hp2) ?_
    rintro _ h3 n3 k3 rfl
    generalize decN R=S at*
    simp(disch:=omega) [hf,a4,a5,a6,lq,lr,lqp,lqp',hs]
    refine Zab (Zrn (k:=18-S.length) (by omega)) ?_
    rintro _ h4 n4 k4 rfl
    obtain⟨v',h',w',e1,e2,e3,e4,e5,e6⟩:=app h4 n4 W _ (k3.trans k4) hW hge
    generalize List.replicate (18-S.length) (48:UInt8)=Z at*
    have hmx:IntKind.max .i64=9223372036854775807:=rfl
    have hln2:¬(9223372036854775807:Int)<(Z.length:Int)+(S.length:Int):=by omega
    simp[hf,a4,a5,a6,lq,lr,lqp,lqp',Zbm,hmx,hln,hln2,splice,e1]
    exact⟨Q,by omega,by omega,⟨e2,e3,q,v',_,by simp,by simp,lq,e4,e5,e6⟩⟩
structure SbI (hb:T O) (n0 b:Nat) (gs:List Str) (pre:Str) (k:Nat) (r:T V) (st:St):Prop where
 hk:k≤gs.length
 r11:r.get 11=some (.int .i64 ((k:Int)-1))
 w:oldIds n0 st.w=[]
 oth:∀i,i<b→st.h.get i=hb.get i
 bd:Bd st.h st.n b (pre++(gs.drop k).reverse.flatten)
def Yib(gs:List Str)(k:Nat):gs.reverse.flatten=(gs.drop k).reverse.flatten++(gs.take k).reverse.flatten:=by
 conv=>lhs;rw[←Ywz k gs]
 rw[List.reverse_append,List.flatten_append]
def Yfv{j:Nat}{s:Str}(h:gs[j]?=some s):(Ztp gs).flatten[j]?=some (.str s):=by
 have:∀gs:List Str,(Ztp gs).flatten=gs.map V.str:=by
  intro gs
  induction gs with
  |nil=>rfl
  |cons a gs ih=>show V.str a::(Ztp gs).flatten=_;rw[ih];rfl
 rw[this,Yvd,h];rfl
def Yfx{hb:T O}{nB n0 b k:Nat}{gs:List Str}{pre:Str}{v:V}{r r0:T V}{sT:St}(hn0:n0≤b)(hl:pre.length+gs.reverse.flatten.length<1000000000000)(hgl:gs.length<1000000000000)(hne:∀s∈gs,s≠[])(ho:Own 1 9 nB hb b v (Ztp gs))(a6:r.get 6=some v)(a10:r.get 10=some (.ptr b 0))(hf:Fx [(11,11),(59,67)] r0 69 ⟨r,69,[]⟩)(s:SbI hb n0 b gs pre k r sT):
  Code A.C none A.lb176_0 ⟨r,69,[]⟩ sT (Rd [(11,11),(59,67)] r0 69 (SbI hb n0 b gs pre) k (fun e r st=>e=.exit 2∧SbI hb n0 b gs pre 0 r st)):=by
 obtain⟨H,n1,W⟩:=sT
 obtain⟨hk,a11,hW,hO,hbd⟩:=s
 simp only at hW hO hbd
 rw[Zah]
 cases k with
 |zero=>
  have c1:¬(0:Int)≤((0:Nat):Int)-1:=by omega
  have a11':r.get 11=some (.int .i64 (-1)):=a11
  simp[A.lb176_0,hf,a11']
  exact⟨hk,by simp[a11'],hW,hO,hbd⟩
 |succ j=>
  have e1:((j+1:Nat):Int)-1=(j:Int):=by omega
  rw[e1]at a11
  obtain⟨g,hg⟩:∃g,gs[j]?=some g:=⟨_,Yut (by omega)⟩
  have hsg:=Yfv hg
  have lv:=ho.len
  have lg:(Ztp gs).length=gs.length:=by simp[Ztp]
  rw[lg]at lv
  have hjl:(j:Int)<(gs.length:Int):=by omega
  rcases ho with⟨_,⟨h1,_⟩|⟨i,rfl,h2,h3,h4⟩⟩
  ·exfalso
   have:gs=[]:=by simpa[Ztp]using h1
   subst this;simp at hk
  ·have hrow:=(hO i h3).trans h4
   have hdc:(gs.drop j).reverse.flatten=(gs.drop (j+1)).reverse.flatten++g:=by
    have:gs.drop j=g::gs.drop (j+1):=by
     rw[Yw6 (by omega)]
     congr 1
     rw[Yut (by omega)]at hg
     simpa using hg
    rw[this,List.reverse_cons,List.flatten_append];simp
   have hcut:=congrArg List.length (Yib gs j)
   rw[hdc,Yu8,Yu8]at hcut
   simp[A.lb176_0,hf,a6,a10,a11,lv,hrow,hsg,hjl,lg]
   refine Zea (Yag hn0 hbd (hne g (Yux hg)) (by rw[Yu8];omega)) ?_
   rintro _ ⟨H2,n2,W2⟩ ⟨hn,hW2,hO2,hb2⟩
   simp only at hn hW2 hO2 hb2
   subst hn
   simp(disch:=first|(simp;done)|omega|(simp only[Zac,Zad,Yuq];omega)|rfl) [hf,a11]
   refine⟨j,by omega,by omega,by simp,by rw[hW2,hW],fun i hi=>(hO2 i hi).trans (hO i hi),?_⟩
   rw[hdc,←Yvz];exact hb2
def Yay{hb:T O}{n0:Nat}{pre:Str}(hn0:n0≤b)(hl:pre.length+gs.reverse.flatten.length<1000000000000)(hgl:gs.length<1000000000000)(hne:∀s∈gs,s≠[])(hnn:pre++gs.reverse.flatten≠[])(ho:Own 1 9 nB hb b v (Ztp gs))(a6:r.get 6=some v)(a10:r.get 10=some (.ptr b 0))
  (hW:oldIds n0 sT.w=[]) (hO:∀i,i<b→sT.h.get i=hb.get i) (hbd:Bd sT.h sT.n b pre):
  Code A.C none A.ta176_0 ⟨r,69,[]⟩ sT (fun e fr st=>e=.ret∧∃r',fr=⟨r',69,[]⟩∧r'.get 2=some (.str (pre++gs.reverse.flatten))∧oldIds n0 st.w=[]∧(∀i,i<b→st.h.get i=hb.get i)∧b≤st.n):=by
 obtain⟨H,n1,W⟩:=sT
 simp only at hW hO hbd
 rw[Zah]
 have lv:=ho.len
 rw[show (Ztp gs).length=gs.length by simp[Ztp]]at lv
 simp(disch:=omega) [A.ta176_0,a6,lv]
 refine Zag [(11,11),(59,67)] (fun e r st=>e=.exit 2∧SbI hb n0 b gs pre 0 r st) (SbI hb n0 b gs pre) gs.length ?_ ?_ ?_
 ·exact⟨Yus _,by simp,hW,hO,by simpa using hbd⟩
 ·intro k r' st' hr hf J
  exact Yfx hn0 hl hgl hne ho (by rw[hr 6 (by decide)];simp[a6]) (by rw[hr 10 (by decide)];simp[a10]) hf J
 ·rintro e r' ⟨H2,n2,W2⟩ hr ⟨rfl,hk,_,hW2,hO2,hb2⟩
  simp only at hW2 hO2 hb2
  rw[Yw9]at hb2
  have hb3:=hb2.1
  have a10':r'.get 10=some (.ptr b 0):=by rw[hr 10 (by decide)];simp[a10]
  simp[a10']
  refine Zea (Ynv hn0 hb2 hnn (by rw[Yu8];omega)) ?_
  rintro _ ⟨H3,n3,W3⟩ ⟨rfl,hn,hW3,hO3⟩
  simp only at hn hW3 hO3
  subst hn
  simp[]
  exact⟨by rw[hW3,hW2],fun i hi=>(hO3 i hi).trans (hO2 i hi),by omega⟩
def Zjp{x:V}{z:Int}{h:T O}{N:Nat}(hx:In h N x z)(hP:P10 h N)(hl:(Zc1 z.natAbs).length<100000000000):Fn A.C 176 [x] h N (fun v h' N'=>v=.str (decI z)):=by
 intro w
 rw[Zaa,A.k176 (by simp)]
 rcases id hx with⟨rfl,h1,h2⟩|⟨i0,o0,l0,c0,rfl,hw0,hz0⟩
 ·simp[A.b176,Zaj,slc,splice,Zae]
  refine Zab (Ymo h1 h2 (hP.keep (kset Keeps.refl _))) ?_
  rintro _ h3 n3 k3 rfl
  simp[Ret]
  exact(kset Keeps.refl _).trans k3
 ·simp[A.b176,Zaj,slc,splice,Zae]
  refine Zab (Zet (hx.keep (kset Keeps.refl (.cells [.int .i64 (sgn z),.slice i0 o0 l0 c0 1] 93 true)))) ?_
  rintro _ h1 n1 k1 ⟨u,rfl,hu⟩
  obtain⟨M,hM⟩:∃M,z.natAbs=M:=⟨_,rfl⟩
  rw[hM]at hu hl
  have hM0:M≠0:=by omega
  have lu:=hu.len
  rw[Zac]at lu
  have kN:=(kset (Keeps.refl (h:=h) (n:=N)) (.cells [.int .i64 (sgn z),.slice i0 o0 l0 c0 1] 93 true)).trans k1
  have kT:=kset (Keeps.refl (h:=h1) (n:=n1)) (.cells [.int .u64 1000000000000000000] 200 true)
  have hT:Wn (h1.set n1 (.cells [.int .u64 1000000000000000000] 200 true)) (n1+1) (.slice n1 0 1 (some 1) 1) 1000000000000000000:=by
   unfold Wn
   rw[Ze4 (by decide) (by decide)]
   exact Sl.row (e:=200) (rw:=true) (L:=1) (by omega) (by simp[dg]) (by simp) (by simp)
  simp[Zaj,slc,splice]
  generalize hhB:h1.set n1 (.cells [.int .u64 1000000000000000000] 200 true)=hB at*
  have hPB:=(hP.keep kN).keep kT
  refine Zag [(4,4),(6,9),(24,53)] (fun e r st=>e=.exit 0∧StI hB (n1+1) M 0 r st) (fun k r st=>k≤M∧StI hB (n1+1) M k r st) M ?_ ?_ ?_
  ·exact⟨Yus _,by simp[oldIds],Keeps.refl,u,.nilslice,[],by simp,by simp,lu,fun _=>hu.keep kT,Own.nil,rfl⟩
  ·rintro m r st hr hf ⟨hm,J⟩
   exact Yfy hPB hl hm hT (by rw[hr 5 (by decide)];simp) hf J
  ·rintro e r ⟨H,n2,W⟩ hr ⟨rfl,hW,hK,u2,v,gs,a4,a6,_,_,ho,hg⟩
   rw[Zmb,Ywo]at hg
   subst hg
   simp only at hW hK ho
   have nle:=hK.le
   have kle:=kN.le
   have a3:r.get 3=some (.bool (decide (z<0))):=by rw[hr 3 (by decide)];simp
   have htx:=Ymx hM0
   have hgl:(grp M).length<1000000000000:=Yvl Ydj (by omega)
   have hdl:(decN M).length<100000000000:=by rw[Zgx hM0];exact hl
   have hfr:Bd (H.set n2 (.cells [.nilptr,.nilslice] 222 true)) (n2+1) n2 []:=⟨Ywf _,.nilptr,.nilslice,by rw[T.get_set,Yuu rfl],.inl rfl,.inl ⟨rfl,rfl⟩⟩
   by_cases hz:z<0
   ·have hde:decI z=[45]++(grp M).reverse.flatten:=by unfold decI;rw[Yuu hz,hM,htx];rfl
    simp[a3,hz]
    refine Zea (Yag (n0:=n1+1) nle hfr (t:=[45]) (by decide) (by decide)) ?_
    rintro _ ⟨H2,n3,W2⟩ ⟨hn,hW2,hO2,hb2⟩
    simp only at hn hW2 hO2 hb2
    subst hn
    simp[]
    refine Zbn (Yay (nB:=n1+1) (n0:=n1+1) (b:=n2) (hb:=H) (gs:=grp M) (pre:=[45]) (v:=v) nle (by rw[htx];simp;omega) hgl (fun s hs=>Yjv hs) (by simp) ho (by simp[a6]) (by simp) (by rw[hW2,hW]) (fun i hi=>by rw[hO2 i hi,T.get_set,Yur (by omega)]) hb2) ?_
    rintro e fr ⟨H6,n6,W6⟩ ⟨rfl,r6,rfl,g2,g3,g4,g5⟩
    simp only at g3 g4 g5
    have hW6:=Zft (show N≤n1+1 by omega) g3
    simp[g2,Ret,hW6,hde]
    exact⟨by omega,fun i hi=>by rw[g4 i (by omega),hK.get i (by omega),←hhB,T.get_set,Yur (by omega),kN.get i hi]⟩
   ·have hde:decI z=[]++(grp M).reverse.flatten:=by unfold decI;rw[Yur hz,hM,htx];rfl
    simp[a3,hz]
    refine Zbn (Yay (nB:=n1+1) (n0:=n1+1) (b:=n2) (hb:=H) (gs:=grp M) (pre:=[]) (v:=v) nle (by rw[htx];simp;omega) hgl (fun s hs=>Yjv hs) (by rw[List.nil_append,htx];exact Zi5 M) ho (by simp[a6]) (by simp) hW (fun i hi=>by rw[T.get_set,Yur (by omega)]) hfr) ?_
    rintro e fr ⟨H6,n6,W6⟩ ⟨rfl,r6,rfl,g2,g3,g4,g5⟩
    simp only at g3 g4 g5
    have hW6:=Zft (show N≤n1+1 by omega) g3
    simp[g2,Ret,hW6,hde]
    exact⟨by omega,fun i hi=>by rw[g4 i (by omega),hK.get i (by omega),←hhB,T.get_set,Yur (by omega),kN.get i hi]⟩
variable {N:Nat} {a b z:Int} {h:T O} {x:V}
set_option maxHeartbeats 2000000
noncomputable def A.b143:=A.q Tryz.f143
def A.k143:=@A.kk 143 6 [.cell 2 (some 4)] A.b143 (by kernel_rfl) rfl
noncomputable def A.b59:=A.q Tryz.f59
def A.k59:=@A.kk 59 6 [.cell 2 (some 4)] A.b59 (by kernel_rfl) rfl
noncomputable def A.b146:=A.q Tryz.f146
def A.k146:=@A.kk 146 13 [.tmp 2] A.b146 (by kernel_rfl) rfl
def A.ta148_0:Zaw:=sr [lN 24 2 2,lN 25 2 3,c2 26 191 24 25,ge 5 (.alloc [.int .i64 0,.nilslice] 93),gn (.store 2 (tq 5) (tq 26))]
 (.seq (.regD [lN 27 2 2,lN 28 2 5,c2 29 201 27 28,lN 30 2 3,lN 31 2 5,c2 32 201 30 31,ge 33 (.build [.int .i64 0,.nilslice,.int .i64 0,.nilslice] [(0,2,(tq 29)),(2,2,(tq 32))]),gn (.store 4 (tq 4) (tq 33))] [0,0,3,0,0,31,63,127])
 (.ret))
def A.ta148_1:Zaw:=.seq (sr [fa 13 1 3,ld 14 13,ge 15 (.bin .eql (.prim .slice) true (tq 14) (.const .nilslice)),mv 16 15,gy 17 16 (.faddr 0 (tq 3)),gy 18 16 (.load none (tq 17)),gy 19 16 (.bin .eql (.prim .int) true (tq 18) (kq 1)),pf 20 16 19]
 (cd 20
 (sr [lN 21 2 2,lN 22 2 3,ge 23 (.build [.int .i64 0,.nilslice,.int .i64 0,.nilslice] [(0,2,(tq 21)),(2,2,(tq 22))]),gn (.store 4 (tq 4) (tq 23))]
 (.ret))
 (.skip)))
 A.ta148_0
def A.b148:Zaw:=sr [bx 2 93 0,bx 3 93 1,ge 4 (.alloc [.int .i64 0,.nilslice,.int .i64 0,.nilslice] 95)]
 (.seq (sr [lN 6 2 3,c1 7 180 6,bc 8 .lss 7 0]
 (cd 8
 (.regD [lN 9 2 2,c1 10 195 9,lN 11 2 3,c1 12 195 11,gn (.store 2 (tq 2) (tq 10)),gn (.store 2 (tq 3) (tq 12))] [0,1,0,7,15,31])
 (.skip)))
 A.ta148_1)
def A.k148:=@A.kk 148 34 [.cell 4 (some 4)] A.b148 (by kernel_rfl) rfl
def Fc(h:T O)(N:Nat)(x:V)(q:Rat):Prop:=∃n1 u1 n2 u2,x=.agg [.int .i64 n1,u1,.int .i64 n2,u2]∧In h N (.agg [.int .i64 n1,u1]) q.num∧In h N (.agg [.int .i64 n2,u2]) (q.den:Nat)
def Fc.keep{h':T O}{N':Nat}{q:Rat}(s:Fc h N x q)(k:Keeps h N h' N'):Fc h' N' x q:=by
 obtain⟨n1,u1,n2,u2,rfl,s1,s2⟩:=s
 exact⟨n1,u1,n2,u2,rfl,s1.keep k,s2.keep k⟩
def Za0{n:Int}{u:V}(s:In h N (.agg [.int .i64 n,u]) z):V.one u=true:=by
 obtain⟨n',u',e,h1⟩:=s.cells
 simp at e
 rw[e.2];exact h1
def Zpy(hx:In h N x z):Fn A.C 143 [x] h N (fun v h' N'=>Fc h' N' v (z:Rat)):=by
 intro w
 rw[Zaa,A.k143 (by simp)]
 obtain⟨n,u,rfl,hu⟩:=hx.cells
 have hu':=hu
 unfold V.one at hu'
 simp[A.b143,Zaj,slc,splice,hu']
 refine Zab Zug ?_
 rintro _ h1 n1 k1 rfl
 have kle:=k1.le
 have g0:=k1.get (N+1) (by omega)
 simp at g0
 simp[Zaj,slc,splice,Zak,g0,hu',Zam.chk,Ret]
 have kk:=(((kset (kset Keeps.refl (.cells [.int .i64 n,u] 93 true)) (.cells [.int .i64 0,.nilslice,.int .i64 0,.nilslice] 95 true)).trans k1).set (h:=h) (n:=N) (i:=N+1) (o:=.cells [.int .i64 n,u,.int .i64 1,.nilslice] 95 true) (by omega))
 refine⟨?_,kk,n,u,1,.nilslice,rfl,?_,?_⟩
 ·split<;>simp[oldIds]
 ·exact hx.keep kk
 ·exact In.small (by decide) (by decide)
def Yh2(h1: -9223372036854775808≤z)(h2:z<9223372036854775808){h:T O}{N:Nat}:Fn A.C 59 [.int .i64 z] h N (fun v h' N'=>Fc h' N' v (z:Rat)):=by
 intro w
 rw[Zaa,A.k59 (by simp)]
 simp[A.b59]
 refine Zab Zug ?_
 rintro _ h3 n3 k3 rfl
 simp[]
 refine Zab (Zpy (In.small h1 h2)) ?_
 rintro _ h4 n4 k4 ⟨n1,u1,n2,u2,rfl,s1,s2⟩
 have kle:=k3.le
 have kle4:=k4.le
 have g0:=(k4.get N (by omega)).trans (k3.get N (by omega))
 simp at g0
 have o1:=Za0 s1
 have o2:=Za0 s2
 unfold V.one at o1 o2
 simp[Zaj,slc,splice,Zak,g0,o1,o2,Zam.chk,Ret]
 have kk:=(((kset (Keeps.refl (h:=h) (n:=N)) (.cells [.int .i64 0,.nilslice,.int .i64 0,.nilslice] 95 true)).trans k3).trans k4).set (h:=h) (n:=N) (i:=N) (o:=.cells [.int .i64 n1,u1,.int .i64 n2,u2] 95 true) (by omega)
 have g1:=(k4.get N (by omega)).trans (k3.get N (by omega))
 rw[T.get_set,Yuu rfl]at g1
 have hn:∀x∈[V.int .i64 0,V.nilslice,V.int .i64 0,V.nilslice],∀m,x≠.int .u64 m:=by
  intro x hx m hc
  simp at hx
  rcases hx with rfl|rfl|rfl|rfl<;>cases hc
 exact⟨kk,n1,u1,n2,u2,rfl,s1.setNU g1 hn rfl,s2.setNU g1 hn rfl⟩
def nu0:∀x∈[V.int .i64 0,V.nilslice,V.int .i64 0,V.nilslice],∀m,x≠.int .u64 m:=by
 intro x hx m hc
 simp at hx
 rcases hx with rfl|rfl|rfl|rfl<;>cases hc
structure MkE (H:T O) (N:Nat) (q:Rat) (st:St):Prop where
 w:oldIds N st.w=[]
 old:∀i,i<N→st.h.get i=H.get i
 le:N+3≤st.n
 ex:∃n1 u1 n2 u2,st.h.get (N+2)=some (.cells [.int .i64 n1,u1,.int .i64 n2,u2] 95 true)∧Fc st.h st.n (.agg [.int .i64 n1,u1,.int .i64 n2,u2]) q
def Yuc{H:T O}{n:Nat}{W:List Nat}{r:T V}{n1 n2:Int}{u1 u2:V}(hn:N+3≤n)(hW:oldIds N W=[])(g1:H.get N=some (.cells [.int .i64 n1,u1] 93 true))(g2:H.get (N+1)=some (.cells [.int .i64 n2,u2] 93 true))(g3:H.get (N+2)=some (.cells [.int .i64 0,.nilslice,.int .i64 0,.nilslice] 95 true))
  (hx:In H n (.agg [.int .i64 n1,u1]) a) (hy:In H n (.agg [.int .i64 n2,u2]) b) (hb:0<b) (la:wl a<10000000000) (lb:wl b<10000000000) (a2:r.get 2=some (.ptr N 0)) (a3:r.get 3=some (.ptr (N+1) 0)) (a4:r.get 4=some (.ptr (N+2) 0)):
  Code A.C none A.ta148_0 ⟨r,34,[]⟩ ⟨H,n,W⟩ (fun e fr st=>e=.ret∧∃r',fr=⟨r',34,[]⟩∧r'.get 4=some (.ptr (N+2) 0)∧MkE H N (Rat.divInt a b) st):=by
 rw[Zah]
 have o1:=Za0 hx
 have o2:=Za0 hy
 unfold V.one at o1 o2
 simp[A.ta148_0,a2,a3,a4,g1,g2,Zaj,slc,splice]
 refine Zab (Yjw hx hy la lb) ?_
 rintro _ h1 m1 k1 hg
 obtain⟨ng,ug,rfl,hug⟩:=hg.cells
 have hug':=hug
 unfold V.one at hug'
 have kle:=k1.le
 have g1':=(k1.get N (by omega)).trans g1
 have g2':=(k1.get (N+1) (by omega)).trans g2
 have g3':=(k1.get (N+2) (by omega)).trans g3
 have d1:¬N=m1:=by omega
 have d2:¬N+1=m1:=by omega
 have d3:¬N+2=m1:=by omega
 have e1:N<m1+1:=by omega
 have e2:N+1<m1+1:=by omega
 have e3:N+2<m1+1:=by omega
 have hgp:0<Int.gcd a b:=Int.gcd_pos_of_ne_zero_right a (by omega)
 obtain⟨G,hG⟩:∃G,Int.gcd a b=G:=⟨_,rfl⟩
 rw[hG]at hgp hg
 have hGb:(G:Int)≤b:=by
  rw[←hG]
  exact Int.le_of_dvd hb (Int.gcd_dvd_right ..)
 have lg:wl (G:Int)<10000000000:=Yvl (Ztf (by omega)) lb
 have kS:Keeps h1 m1 ((h1.set m1 (.cells [.int .i64 0,.nilslice] 93 true)).set m1 (.cells [.int .i64 ng,ug] 93 true)) (m1+1):=(kset Keeps.refl _).set (Yus _)
 simp[a2,a3,a4,g1',g2',d1,d2,d3,Zaj,slc,splice,Zak,hug',o1,o2,e1,e2]
 refine Zab (Yje ((hx.keep k1).keep kS) (hg.keep kS) (by omega) la lg) ?_
 rintro _ h2 m2 k2 hq1
 obtain⟨n3,u3,rfl,hu3⟩:=hq1.cells
 have o3:=hu3
 unfold V.one at o3
 have kT:=(k1.trans kS).trans k2
 have kle2:=kT.le
 have f1:=(kT.get N (by omega)).trans g1
 have f2:=(kT.get (N+1) (by omega)).trans g2
 have f3:=(kT.get (N+2) (by omega)).trans g3
 have f5:=k2.get m1 (by omega)
 rw[T.get_set,Yuu rfl]at f5
 have kle3:=k2.le
 have e4:N+1<m2:=by omega
 have e5:m1<m2:=by omega
 have e6:N+2<m2:=by omega
 simp[a2,a3,a4,f1,f2,f5,Zaj,slc,splice,Zak,hug',o1,o2,o3,e4,e5]
 refine Zab (Yje ((hy.keep kT)) ((hg.keep kS).keep k2) (by omega) lb lg) ?_
 rintro _ h3 m3 k3 hq2
 obtain⟨n4,u4,rfl,hu4⟩:=hq2.cells
 have o4:=hu4
 unfold V.one at o4
 have kU:=kT.trans k3
 have kle4:=kU.le
 have f6:=(kU.get (N+2) (by omega)).trans g3
 have e7:N+2<m3:=by omega
 simp[a4,f6,Zaj,slc,splice,Zak,o3,o4,e7,Zam.chk]
 have hnum:(Rat.divInt a b).num=a/(G:Int):=by
  rw[Rat.num_divInt,Int.sign_eq_one_of_pos hb,Int.one_mul,Int.gcd_comm,hG]
 have hden:((Rat.divInt a b).den:Int)=b/(G:Int):=by
  rw[Rat.den_divInt,Yur (by omega),Int.gcd_comm,hG,Int.natCast_ediv,Int.natAbs_of_nonneg (by omega)]
 have n2':¬N+2<N:=by omega
 have n3':¬m1<N:=by omega
 refine⟨by simp[oldIds,hW,n2',n3'],fun i hi=>?_,by show N+3≤m3;omega,n3,u3,n4,u4,by show T.get (T.set _ _ _) _=_;rw[T.get_set,Yuu rfl],n3,u3,n4,u4,rfl,?_,?_⟩
 ·show T.get (T.set _ _ _) _=_
  rw[T.get_set,Yur (by omega),kU.get i (by omega)]
 ·rw[hnum];exact(hq1.keep k3).setNU f6 nu0 rfl
 ·rw[hden];exact hq2.setNU f6 nu0 rfl
def Yub{H:T O}{n:Nat}{W:List Nat}{r:T V}{n1 n2:Int}{u1 u2:V}(hn:N+3≤n)(hW:oldIds N W=[])(g1:H.get N=some (.cells [.int .i64 n1,u1] 93 true))(g2:H.get (N+1)=some (.cells [.int .i64 n2,u2] 93 true))(g3:H.get (N+2)=some (.cells [.int .i64 0,.nilslice,.int .i64 0,.nilslice] 95 true))
  (hx:In H n (.agg [.int .i64 n1,u1]) a) (hy:In H n (.agg [.int .i64 n2,u2]) b) (hb:0<b) (la:wl a<10000000000) (lb:wl b<10000000000) (a2:r.get 2=some (.ptr N 0)) (a3:r.get 3=some (.ptr (N+1) 0)) (a4:r.get 4=some (.ptr (N+2) 0)):
  Code A.C none A.ta148_1 ⟨r,34,[]⟩ ⟨H,n,W⟩ (fun e fr st=>e=.ret∧∃r',fr=⟨r',34,[]⟩∧r'.get 4=some (.ptr (N+2) 0)∧MkE H N (Rat.divInt a b) st):=by
 rw[Zah]
 have o1:=Za0 hx
 have o2:=Za0 hy
 unfold V.one at o1 o2
 have fin:∀r':T V,r'.get 2=some (.ptr N 0)→r'.get 3=some (.ptr (N+1) 0)→r'.get 4=some (.ptr (N+2) 0)→Run A.C [] (exR (A.C.code none A.ta148_0 ⟨r',34,[]⟩ ⟨H,n,W⟩)) (exQ (fun e fr st=>e=.ret∧∃r',fr=⟨r',34,[]⟩∧r'.get 4=some (.ptr (N+2) 0)∧MkE H N (Rat.divInt a b) st)):=fun r' b2 b3 b4=>Zah.1 (Yuc hn hW g1 g2 g3 hx hy hb la lb b2 b3 b4)
 have hy0:=hy
 rcases hy0 with⟨e0,_,_⟩|⟨i,o,l,c,e0,_,_⟩
 ·simp only[V.agg.injEq,Yvf,V.int.injEq,true_and,and_true]at e0
  obtain⟨rfl,rfl⟩:=e0
  by_cases c1:n2=1
  ·subst c1
   simp[A.ta148_1,a2,a3,a4,g1,g2,g3,Zaj,slc,splice,Zae,Zak,o1]
   have n2':¬N+2<N:=by omega
   refine⟨by simp[oldIds,hW,n2'],fun i hi=>?_,hn,n1,u1,1,.nilslice,by show T.get (T.set _ _ _) _=_;rw[T.get_set,Yuu rfl],n1,u1,1,.nilslice,rfl,?_,?_⟩
   ·show T.get (T.set _ _ _) _=_
    rw[T.get_set,Yur (by omega)]
   ·rw[show (Rat.divInt a 1).num=a by rw[Rat.num_divInt];simp];exact hx.setNU g3 nu0 rfl
   ·rw[show ((Rat.divInt a 1).den:Int)=1 by rw[Rat.den_divInt];simp];exact In.small (by decide) (by decide)
  ·simp[A.ta148_1,a2,a3,a4,g1,g2,g3,Zaj,slc,splice,Zae,Zak,o1,c1]
   exact fin _ (by simp[a2]) (by simp[a3]) (by simp[a4])
 ·simp only[V.agg.injEq,Yvf,V.int.injEq,true_and,and_true]at e0
  obtain⟨rfl,rfl⟩:=e0
  simp[A.ta148_1,a2,a3,a4,g1,g2,g3,Zaj,slc,splice,Zae,Zak,o1]
  exact fin _ (by simp[a2]) (by simp[a3]) (by simp[a4])
def Zuv{y:V}(hx:In h N x a)(hy:In h N y b)(hb:b≠0)(la:wl a<10000000000)(lb:wl b<10000000000):Fn A.C 148 [x,y] h N (fun v h' n'=>Fc h' n' v (Rat.divInt a b)):=by
 intro w
 rw[Zaa,A.k148 (by simp)]
 obtain⟨n1,u1,rfl,hu1⟩:=hx.cells
 obtain⟨n2,u2,rfl,hu2⟩:=hy.cells
 have o1:=hu1
 have o2:=hu2
 unfold V.one at o1 o2
 have kB:Keeps h N (((h.set N (.cells [.int .i64 n1,u1] 93 true)).set (N+1) (.cells [.int .i64 n2,u2] 93 true)).set (N+2) (.cells [.int .i64 0,.nilslice,.int .i64 0,.nilslice] 95 true)) (N+3):=kset (kset (kset Keeps.refl _) _) _
 have done:∀(r:T V) (h1:T O) (m:Nat) (W1:List Nat) (a' b' n1' n2':Int) (u1' u2':V),N+3≤m→oldIds N W1=[]→(∀i,i<N→h1.get i=h.get i)→h1.get N=some (.cells [.int .i64 n1',u1'] 93 true)→h1.get (N+1)=some (.cells [.int .i64 n2',u2'] 93 true)→h1.get (N+2)=some (.cells [.int .i64 0,.nilslice,.int .i64 0,.nilslice] 95 true)→
   In h1 m (.agg [.int .i64 n1',u1']) a'→In h1 m (.agg [.int .i64 n2',u2']) b'→0<b'→wl a'<10000000000→wl b'<10000000000→Rat.divInt a' b'=Rat.divInt a b→r.get 2=some (.ptr N 0)→r.get 3=some (.ptr (N+1) 0)→r.get 4=some (.ptr (N+2) 0)→
   Run A.C [.fin [.cell 4 (some 4)] ⟨h,N,w⟩] (exR (A.C.code none A.ta148_1 ⟨r,34,[]⟩ ⟨h1,m,W1⟩)) (Yfj (Ret (fun v h' n'=>Fc h' n' v (Rat.divInt a b)) h N w)):=by
  intro r h1 m W1 a' b' n1' n2' u1' u2' hm hW1 hO g1 g2 g3 i1 i2 hb' la' lb' hq b2 b3 b4
  refine Zbn (Yub hm hW1 g1 g2 g3 i1 i2 hb' la' lb' b2 b3 b4) ?_
  rintro e fr ⟨H6,n6,W6⟩ ⟨rfl,r6,rfl,c4,q1,q2,q3,m1,v1,m2,v2,q4,q5⟩
  simp only at q1 q2 q3 q4 q5
  rw[hq]at q5
  simp[c4,q4,Zaj,slc,Ret,q1]
  exact⟨⟨by omega,fun i hi=>(q2 i hi).trans (hO i hi)⟩,q5⟩
 simp[A.b148,Zaj,slc,splice,o1,o2]
 generalize hhB:((h.set N (.cells [.int .i64 n1,u1] 93 true)).set (N+1) (.cells [.int .i64 n2,u2] 93 true)).set (N+2) (.cells [.int .i64 0,.nilslice,.int .i64 0,.nilslice] 95 true)=hB at*
 have b1:hB.get N=some (.cells [.int .i64 n1,u1] 93 true):=by rw[←hhB];simp
 have b2:hB.get (N+1)=some (.cells [.int .i64 n2,u2] 93 true):=by rw[←hhB];simp
 have b3:hB.get (N+2)=some (.cells [.int .i64 0,.nilslice,.int .i64 0,.nilslice] 95 true):=by rw[←hhB];simp
 refine Zab (Zkz (hy.keep kB)) ?_
 rintro _ h1 m1 k1 rfl
 have kk:=kB.trans k1
 have kle:=kk.le
 have kle1:=k1.le
 have f1:=(k1.get N (by omega)).trans b1
 have f2:=(k1.get (N+1) (by omega)).trans b2
 have f3:=(k1.get (N+2) (by omega)).trans b3
 by_cases hbn:b<0
 ·have s1:sg3 b= -1:=by unfold sg3;rw[Yuu hbn]
  have l1:N<m1:=by omega
  simp[s1,f1,f2,l1,Zaj,slc,splice]
  refine Zab (Zpd (hx.keep kk) (by omega)) ?_
  rintro _ h2 m2 k2 q1
  obtain⟨n3,u3,rfl,hu3⟩:=q1.cells
  have o3:=hu3
  unfold V.one at o3
  have kle2:=k2.le
  have f4:=(k2.get N (by omega)).trans f1
  have f5:=(k2.get (N+1) (by omega)).trans f2
  have f6:=(k2.get (N+2) (by omega)).trans f3
  have l2:N+1<m2:=by omega
  simp[f4,f5,l2,Zaj,slc,splice]
  refine Zab (Zpd ((hy.keep kk).keep k2) (by omega)) ?_
  rintro _ h3 m3 k3 q2
  obtain⟨n4,u4,rfl,hu4⟩:=q2.cells
  have o4:=hu4
  unfold V.one at o4
  have kle3:=k3.le
  have f7:=(k3.get N (by omega)).trans f4
  have f8:=(k3.get (N+1) (by omega)).trans f5
  have f9:=(k3.get (N+2) (by omega)).trans f6
  have l3:N+1<m3:=by omega
  have l4:N<m3:=by omega
  simp[f7,f8,l3,l4,Zaj,slc,splice,Zak,o3,o4,Zam.chk]
  have i1:=(q1.keep k3).setNU (c1:=[.int .i64 n3,u3]) (e1:=93) (w1:=true) f7 hx.nu rfl
  have i2:=q2.setNU (c1:=[.int .i64 n3,u3]) (e1:=93) (w1:=true) f7 hx.nu rfl
  have f8':((h3.set N (.cells [.int .i64 n3,u3] 93 true)):T O).get (N+1)=some (.cells [.int .i64 n2,u2] 93 true):=by rw[T.get_set,Yur (by omega)];exact f8
  have j1:=i1.setNU (c1:=[.int .i64 n4,u4]) (e1:=93) (w1:=true) f8' hy.nu rfl
  have j2:=i2.setNU (c1:=[.int .i64 n4,u4]) (e1:=93) (w1:=true) f8' hy.nu rfl
  have l5:¬N+1<N:=by omega
  exact done _ _ _ _ (-a) (-b) n3 n4 u3 u4 (by omega) (by simp[oldIds,l5]) (fun i hi=>by rw[T.get_set,Yur (by omega),T.get_set,Yur (by omega),k3.get i (by omega),k2.get i (by omega),kk.get i hi]) (by rw[T.get_set,Yur (by omega),T.get_set,Yuu rfl]) (by rw[T.get_set,Yuu rfl]) (by rw[T.get_set,Yur (by omega),T.get_set,Yur (by omega)];exact f9) j1 j2 (by omega) (by rw[Zq4];exact la) (by rw[Zq4];exact lb) (Rat.neg_divInt_neg a b) (by simp) (by simp) (by simp)
 ·have s1:sg3 b=1:=by unfold sg3;rw[Yur hbn,Yur hb]
  simp[s1]
  exact done _ _ _ _ a b n1 n2 u1 u2 (by omega) (by simp[oldIds]) (fun i hi=>kk.get i hi) f1 f2 f3 (hx.keep kk) (hy.keep kk) (by omega) la lb rfl (by simp) (by simp) (by simp)
set_option maxHeartbeats 2000000
noncomputable def A.b98:=A.q Tryz.f98
def A.k98:=@A.kk 98 16 [.cell 4 (some 4)] A.b98 (by kernel_rfl) rfl
def Ydp{x y:V}{p q:Rat}{h:T O}{N:Nat}(hx:Fc h N x p)(hy:Fc h N y q)(l1:wl p.num<1000000000)(l2:wl (p.den:Nat)<1000000000)(l3:wl q.num<1000000000)(l4:wl (q.den:Nat)<1000000000):Fn A.C 98 [x,y] h N (fun v h' n'=>Fc h' n' v (p*q)):=by
 intro w
 rw[Zaa,A.k98 (by simp)]
 obtain⟨n1,u1,n2,u2,rfl,s1,s2⟩:=hx
 obtain⟨n3,u3,n4,u4,rfl,s3,s4⟩:=hy
 have o1:=Za0 s1
 have o2:=Za0 s2
 have o3:=Za0 s3
 have o4:=Za0 s4
 unfold V.one at o1 o2 o3 o4
 have kB:Keeps h N (((h.set N (.cells [.int .i64 n1,u1,.int .i64 n2,u2] 95 true)).set (N+1) (.cells [.int .i64 n3,u3,.int .i64 n4,u4] 95 true)).set (N+2) (.cells [.int .i64 0,.nilslice,.int .i64 0,.nilslice] 95 true)) (N+3):=kset (kset (kset Keeps.refl _) _) _
 simp[A.b98,Zaj,slc,splice,o1,o2,o3,o4]
 generalize hhB:((h.set N (.cells [.int .i64 n1,u1,.int .i64 n2,u2] 95 true)).set (N+1) (.cells [.int .i64 n3,u3,.int .i64 n4,u4] 95 true)).set (N+2) (.cells [.int .i64 0,.nilslice,.int .i64 0,.nilslice] 95 true)=hB at*
 have b1:hB.get N=some (.cells [.int .i64 n1,u1,.int .i64 n2,u2] 95 true):=by rw[←hhB];simp
 have b2:hB.get (N+1)=some (.cells [.int .i64 n3,u3,.int .i64 n4,u4] 95 true):=by rw[←hhB];simp
 have b3:hB.get (N+2)=some (.cells [.int .i64 0,.nilslice,.int .i64 0,.nilslice] 95 true):=by rw[←hhB];simp
 refine Zab (Zjz (s1.keep kB) (s3.keep kB) (by omega) (by omega)) ?_
 rintro v5 h1 m1 k1 q1
 have kle1:=k1.le
 have f1:=(k1.get N (by omega)).trans b1
 have f2:=(k1.get (N+1) (by omega)).trans b2
 have f3:=(k1.get (N+2) (by omega)).trans b3
 have e1:N<m1:=by omega
 have e2:N+1<m1:=by omega
 simp[f1,f2,e1,e2,Zaj,slc,splice]
 refine Zab (Zjz ((s2.keep kB).keep k1) ((s4.keep kB).keep k1) (by omega) (by omega)) ?_
 rintro v6 h2 m2 k2 q2
 have kle2:=k2.le
 have f4:=(k2.get (N+2) (by omega)).trans f3
 simp[]
 have hd:((p.den:Nat):Int)*((q.den:Nat):Int)≠0:=by
  have:=p.den_nz
  have:=q.den_nz
  exact Yx2 (by omega) (by omega)
 refine Zab (Zuv (q1.keep k2) q2 hd ?_ ?_) ?_
 ·have:=Zmi p.num q.num
  omega
 ·have:=Zmi ((p.den:Nat):Int) ((q.den:Nat):Int)
  omega
 ·rintro v7 h3 m3 k3 hv
  rw[←Rat.divInt_mul_divInt,Ywr,Ywr]at hv
  obtain⟨n5,u5,n6,u6,rfl,t1,t2⟩:=hv
  have o5:=Za0 t1
  have o6:=Za0 t2
  unfold V.one at o5 o6
  have kle3:=k3.le
  have f5:=(k3.get (N+2) (by omega)).trans f4
  have e3:N+2<m3:=by omega
  simp[f5,e3,Zaj,slc,splice,Zak,o5,o6,Zam.chk,Ret]
  have kk:=((kB.trans k1).trans k2).trans k3
  exact⟨kk.set (by omega),n5,u5,n6,u6,rfl,t1.setNU (i:=N+2) f5 nu0 rfl,t2.setNU (i:=N+2) f5 nu0 rfl⟩
def Ydb{x:V}{q:Rat}{h:T O}{N:Nat}(hx:Fc h N x q):Fn A.C 146 [x] h N (fun v _ _=>v=.bool (decide (q.den=1))):=by
 intro w
 rw[Zaa,A.k146 (by simp)]
 obtain⟨n1,u1,n2,u2,rfl,s1,s2⟩:=hx
 have o1:=Za0 s1
 have o2:=Za0 s2
 unfold V.one at o1 o2
 rcases s2 with⟨e0,_,_⟩|⟨i,o,l,c,e0,_,hz⟩
 ·simp only[V.agg.injEq,Yvf,V.int.injEq,true_and,and_true]at e0
  obtain⟨rfl,rfl⟩:=e0
  by_cases c1:q.den=1
  ·have c2:((q.den:Nat):Int)=1:=by omega
   simp[A.b146,Zaj,slc,splice,o1,Zae,c1,c2,Ret]
   exact kset Keeps.refl _
  ·have c2:¬((q.den:Nat):Int)=1:=by omega
   simp[A.b146,Zaj,slc,splice,o1,Zae,c1,c2,Ret]
   exact kset Keeps.refl _
 ·simp only[V.agg.injEq,Yvf,V.int.injEq,true_and,and_true]at e0
  obtain⟨rfl,rfl⟩:=e0
  have c1:¬q.den=1:=by omega
  simp[A.b146,Zaj,slc,splice,o1,Zae,c1,Ret]
  exact kset Keeps.refl _
end Go.Mx
