/-num-/
import Derived.Test.YtokjleejipaidaaGreatDoorNcB
set_option linter.all false
namespace Go.Mx
noncomputable section
open Go Go.Proofs
variable {b nB:Nat} {gs:List aQ} {r:T V} {sT:St} {v:V}
set_option maxHeartbeats 4000000
set_option maxRecDepth 1000000
def A.nA:bN:=.seq (sr [mv 59 11,bc 60 .geq 59 0]
 (cd 60
 (.skip)
 (.exit 2)))
 (.seq (.block 3 (.dN [mv 63 6,mv 64 11,ia 65 1 63 64,ld 66 65,c2 67 215 10 66]))
 (.dN [mv 61 11,bc 62 .sub 61 1,mv 11 62]))
def A.nC:bN:=.seq (sr [mv 24 4,ln 25 24,bc 26 .gtr 25 0]
 (cd 26
 (.skip)
 (.exit 0)))
 (.block 1 (sr [mv 28 4,mv 29 5,c2 30 212 28 29,mv 27 30,xt 31 27 0,xt 32 27 1,mv 7 31,mv 8 32]
 (sr [ge 9 (.jF (.const (.str [48])))]
 (.seq (sr [mv 33 8,ln 34 33,bc 35 .gtr 34 0]
 (cd 35
 (.dN [mv 36 8,ge 37 (.dh 1 (tq 36) (kq 0)),ld 38 37,ge 39 (.call (fq 213) [tq 38,.const (.int .i64 10)]),mv 9 39])
 (.skip)))
 (.seq (sr [mv 40 7,ln 41 40,bc 42 .gtr 41 0]
 (cd 42
 (.dN [mv 43 9,ge 44 (.len 0 (tq 43)),ge 45 (.bin .sub (.node []) false (kq 18) (tq 44)),ge 46 (.call (fq 214) [(.const (.str [48])),tq 45]),mv 47 9,bi 48 .add 46 47,mv 9 48])
 (.skip)))
 (sr [mv 49 6,mv 50 9,ge 51 (.eh 9 1 1 [(.str [])] [(0,1,(tq 50))]),ge 52 (.append 1 16 9 [(.str [])] (tq 49) (tq 51)),mv 6 52]
 (.dN [mv 53 7,mv 4 53])))))))
def A.sq:bN:=.seq (sr [mv 56 6,ln 57 56,bc 58 .sub 57 1,mv 11 58]
 (.block 2 (.loop A.nA)))
 (sr [c1 68 216 10,mv 2 68]
 (.ret))
def A.b160:bN:=sr [bx 1 106 0,ge 2 (.jF (.const (.str [])))]
 (.seq (sr [fa 12 1 1,ld 13 12,ge 14 (.bin .eql (.bI .slice) true (tq 13) (.const .aa))]
 (cd 14
 (sr [fa 15 0 1,ld 16 15,c1 17 211 16,mv 2 17]
 (.ret))
 (.skip)))
 (sr [lN 19 2 1,c1 20 196 19,mv 18 20,xt 21 18 0,xt 22 18 1,mv 3 21,mv 4 22]
 (sr [ge 23 (.eh 200 1 1 [.int .u64 0] [(0,1,(.const (.int .u64 1000000000000000000)))]),mv 5 23]
 (sr [mN 6]
 (.seq (.block 0 (.loop A.nC))
 (sr [ge 10 (.alloc [.bF,.aa] 219)]
 (.seq (sr [mv 54 3]
 (cd 54
 (.dN [ge 55 (.call (fq 215) [tq 10,(.const (.str [45]))])])
 (.skip)))
 A.sq)))))))
def A.k160:=@A.kk 160 69 [.tmp 2] A.b160 (by kernel_rfl) rfl
def su(n:Nat):List aQ:=if h:n=0 then [] else (if n/1000000000000000000=0 then aq n else iA (n%1000000000000000000) 18)::su (n/1000000000000000000)
termination_by n
decreasing_by omega
def Sz:su 0=[]:=by unfold su;simp
def SA{n:Nat}(h:n≠0):su n=(if n/1000000000000000000=0 then aq n else iA (n%1000000000000000000) 18)::su (n/1000000000000000000):=by
 conv=>lhs;unfold su
 rw[dif_neg h]
def Yp9:∀{n:Nat},n≠0->(su n).reverse.flatten=aq n:=by
 intro n
 induction n using Nat.strongRecOn with
 |_ n ih=>
  intro h
  rw[SA h]
  by_cases h0:n/1000000000000000000=0
  ·rw[ax h0,h0,Sz];simp
  ·rw[ak h0,List.reverse_cons,List.flatten_append,ih _ (by omega) h0,II h,II h0]
   have e:=Zqx (k:=18) (a:=n/1000000000000000000) (b:=n%1000000000000000000) h0 (kQ _ (by decide))
   rw[show n/1000000000000000000*10^18+n%1000000000000000000=n by have:=uZ n 1000000000000000000;omega]at e
   rw[e];simp
def Zup{a:Nat}(h:a<=b):(de a).length<=(de b).length:=qd.1 (rK h (qd.2 (aO _)))
def Yfp:∀{n:Nat},(su n).length<=(de n).length:=by
 intro n
 induction n using Nat.strongRecOn with
 |_ n ih=>
  by_cases h:n=0
  ·subst h;rw[Sz];simp
  ·rw[SA h,bo,yc h,iN]
   have h1:=ih (n/1000000000000000000) (by omega)
   have h2:=Zup (a:=n/1000000000000000000) (b:=n/10) (by omega)
   simp;omega
def Ymh:∀{n:Nat} {s:aQ},s∈su n->s≠[]:=by
 intro n
 induction n using Nat.strongRecOn with
 |_ n ih=>
  intro s hs
  by_cases h:n=0
  ·subst h;rw[Sz]at hs;cases hs
  ·rw[SA h]at hs
   rcases ku.1 hs with hs|hs
   ·subst hs
    split
    ·exact HT n
    ·intro hc
     have:=Ykx (b:=n%1000000000000000000) (k:=18) (kQ _ (by decide))
     rw[hc]at this;simp at this
   ·exact ih _ (by omega) hs
def wN(l:List aQ):List (List V):=l.map fun s=>[.str s]
def Yr6{q:V}{Q n n':Nat}{h h':T O}{e:TypeId}(hq:Wn h n q Q)(hQ:Q≠0)(hv:Own 1 e nB h n v (wN gs))(hh:∀j,j<n->h'.get j=h.get j\/(∃o m c y,v=.slice j o m c y))(hn:n<=n'):Wn h' n' q Q:=by
 obtain⟨d,hd⟩:∃d,(aG Q)[0]?=some d:=by rw[mZ hQ];exact⟨_,rfl⟩
 rcases hq with⟨hz,_⟩|⟨i,o,cp,c,ee,rw,rfl,q1,q2,q3,q4⟩
 ·rw[mZ hQ]at hz;simp[dg]at hz
 ·refine .inr ⟨i,o,cp,c,ee,rw,rfl,e_ q1 hn,?_,q3,q4⟩
  rcases hh i q1 with h1|⟨o',m,c',y,rfl⟩
  ·rw[h1];exact q2
  ·exfalso
   rcases hv with⟨_,⟨_,h1⟩|⟨i',h1,_,_,h2⟩⟩
   ·cases h1
   ·simp only[V.slice.injEq]at h1
    obtain⟨rfl,_⟩:=h1
    rw[q2]at h2
    simp only[an,O.cells.injEq]at h2
    have h3:=q3 0 (by rw[bB,mZ hQ];simp)
    rw[fz hd,h2.1]at h3
    have:=bM h3
    obtain⟨l,hl,hx⟩:=List.mem_flatten.1 this
    obtain⟨s,_,rfl⟩:=eC.1 hl
    simp at hx
structure Oi (hB:T O) (nB M:Nat) (m:Nat) (r:T V) (st:St):Prop where
 w:ar nB st.w=[]
 ad:ab hB nB st.h st.n
 ex:∃u v gs,r.get 4=some u/\r.get 6=some v/\pA u=some (aG m).length/\(m≠0->Wn st.h st.n u m)/\Own 1 9 nB st.h st.n v (wN gs)/\gs++su m=su M
def Yh6{hB:T O}{M m:Nat}{r0:T V}{t:V}(hP:lE hB nB)(hM:(de M).length<100000000000)(hm:m<=M)(ht:Wn hB nB t 1000000000000000000)(a5:r.get 5=some t)(hf:Fx [(4,4),(6,9),(24,53)] r0 69 ⟨r,69,[]⟩)(s:Oi hB nB M m r sT):
  Code A.C none A.nC ⟨r,69,[]⟩ sT (Rd [(4,4),(6,9),(24,53)] r0 69 (fun k r st=>k<=M/\Oi hB nB M k r st) m (fun e r st=>e=.exit 0/\Oi hB nB M 0 r st)):=by
 obtain⟨H,n1,W⟩:=sT
 obtain⟨hW,hK,u,v,gs,a4,a6,lu,hu,ho,hg⟩:=s
 simp only at hW hK hu ho
 rw[bb]
 by_cases h0:m=0
 ·subst h0
  rw[rV]at lu
  simp[A.nC,hf,a4,lu]
  exact⟨hW,hK,u,v,gs,by simp[a4],by simp[a6],by rw[rV];exact lu,hu,ho,hg⟩
 ·replace hu:=hu h0
  have lp:0<(aG m).length:=by rw[mZ h0];simp
  have lp':(0:Int)<((aG m).length:Int):=by omega
  have Ey:(aG m).length<1000000000000:=by
   have h1:=F0 (n:=m) (k:=(de M).length) (qd.2 (Zup hm))
   unfold wl at h1
   simp at h1
   omega
  have DT:(aG 1000000000000000000).length<1000000000000:=by rw[Io (by decide) (by decide)];decide
  have yo:gs.length+(su m).length<=(de M).length:=by
   rw[<-iN,hg];exact Yfp
  have pV:=SA h0
  rw[pV,bo]at yo
  simp[A.nC,hf,a4,a5,lu,lp,lp']
  refine ay (Zul hu (ht.ad hK) (by decide) Ey DT) ?_
  rintro _ h2 n2 k2 ⟨q,Ir,rfl,hq,ME⟩
  have lq:=hq.len
  have lr:=ME.len
  rw[bB]at lq lr
  have xu:m%1000000000000000000<18446744073709551616:=by omega
  obtain⟨R,hR⟩:∃R,m%1000000000000000000=R:=⟨_,rfl⟩
  obtain⟨Q,hQ⟩:∃Q,m/1000000000000000000=Q:=⟨_,rfl⟩
  rw[hR]at lr ME pV
  rw[hQ]at lq hq pV yo
  have kk:=hK.trans k2
  have zN:=hP.ad kk
  have app:∀(h3:T O) (n3:Nat) (W3:List Nat) (g:aQ),ab h2 n2 h3 n3->ar nB W3=[]->g=(if Q=0 then aq m else iA R 18)->
    ∃v' h' w',gX ⟨h3.set n3 (.cells [.str g] 9 true),n3+1,W3⟩ 1 16 9 v (.slice n3 0 1 (some 1) 1)=some (v',⟨h',n3+1+1,w'⟩)/\ar nB w'=[]/\ab hB nB h' (n3+1+1)/\(Q≠0->Wn h' (n3+1+1) q Q)/\Own 1 9 nB h' (n3+1+1) v' (wN (gs++[g]))/\(gs++[g])++su Q=su M:=by
   intro h3 n3 W3 g k3 BK pK
   have kk3:=kk.trans k3
   have fk:=kk3.le
   have uP:=(ho.ad (k2.trans k3)).ad (aN ab.refl (.cells [.str g] 9 true))
   obtain⟨v',h',w',e1,e2,e3,e4,e5⟩:=tJ (x:=[.str g]) (u:=.slice n3 0 1 (some 1) 1) (bytes:=16) (w:=W3) uP (by omega) (by decide) rfl (by simp[ef,St.row,aC]) (by simp[wN];omega)
   refine⟨v',h',w',e1,by rw[e2];exact BK,(kk3.trans (aN ab.refl _)).then e3,fun DV=>?_,by simpa[wN]using e5,by rw[pK,<-hg,pV,tU];rfl⟩
   have NP:=(hq.ad k3).ad (aN ab.refl (.cells [.str g] 9 true))
   refine Yr6 NP DV uP (fun j hj=>?_) (vF _)
   rcases e4 j with h1|h1|h1
   ·exact .inl h1
   ·omega
   ·exact .inr h1
  have f18:((18:Int)-1)=((17:Nat):Int):=rfl
  by_cases Ae:R=0
  ·have DV:Q≠0:=by omega
   have KK:0<(aG Q).length:=by rw[mZ DV];simp
   have zc:(0:Int)<((aG Q).length:Int):=by omega
   have pK:[48,48,48,48,48,48,48,48,48,48,48,48,48,48,48,48,48,48]=(if Q=0 then aq m else iA R 18):=by rw[ak DV,Ae];unfold iA;rw[ux];rfl
   rw[Ae,rV]at lr
   simp[hf,a4,a5,a6,lq,lr,KK,zc]
   refine ay (Zte (k:=17) (by decide)) ?_
   rintro _ h3 n3 k3 rfl
   obtain⟨v',h',w',e1,e2,e3,e4,e5,e6⟩:=app h3 n3 W _ k3 hW pK
   simp[hf,a4,a5,a6,lq,lr,KK,zc,gE,ae,e1]
   exact⟨Q,by omega,by omega,⟨e2,e3,q,v',_,by simp,by simp,lq,e4,e5,e6⟩⟩
  ·have hRw:aG R=[R]:=Io (by unfold B;omega) Ae
   obtain⟨i,o,c,e,wr,p1,p2,p3,p4⟩:=ME.at (fz (l:=aG R) (j:=0) (n:=R) (by rw[hRw];rfl))
   rw[hRw]at lr
   have lr:pA Ir=some 1:=lr
   have ZL:=II Ae
   rw[iX]at p4
   by_cases DV:Q=0
   ·have pK:aq R=(if Q=0 then aq m else iA R 18):=by rw[ax DV];congr 1;omega
    have lqz:(aG Q).length=0:=by rw[DV,rV];rfl
    rw[lqz]at lq
    simp[hf,a4,a5,a6,lq,lr,p1,p3,p4]
    refine ay (Ymk (x:=R) (by omega) zN) ?_
    rintro _ h3 n3 k3 rfl
    obtain⟨v',h',w',e1,e2,e3,e4,e5,e6⟩:=app h3 n3 W _ k3 hW pK
    simp[hf,a4,a5,a6,lq,lr,gE,ae,e1]
    exact⟨Q,by omega,by omega,⟨e2,e3,q,v',_,by simp,by simp,by rw[lqz];exact lq,e4,e5,e6⟩⟩
   ·have KK:0<(aG Q).length:=by rw[mZ DV];simp
    have zc:(0:Int)<((aG Q).length:Int):=by omega
    have za3:(de R).length<=18:=qd.1 (by omega)
    have pK:List.replicate (18-(aq R).length) 48++aq R=(if Q=0 then aq m else iA R 18):=by rw[ak DV,ZL];rfl
    have hs:(18:Int)-((aq R).length:Int)=((18-(aq R).length:Nat):Int):=by rw[ZL];omega
    have DW:¬(9223372036854775807:Int)<(((List.replicate (18-(aq R).length) (48:UInt8)).length+(aq R).length:Nat):Int):=by rw[List.length_replicate,ZL];omega
    simp[hf,a4,a5,a6,lq,lr,KK,zc,p1,p3,p4]
    refine ay (Ymk (x:=R) (by omega) zN) ?_
    rintro _ h3 n3 k3 rfl
    generalize aq R=S at*
    simp(disch:=omega) [hf,a4,a5,a6,lq,lr,KK,zc,hs]
    refine ay (Zte (k:=18-S.length) (by omega)) ?_
    rintro _ h4 n4 k4 rfl
    obtain⟨v',h',w',e1,e2,e3,e4,e5,e6⟩:=app h4 n4 W _ (k3.trans k4) hW pK
    generalize List.replicate (18-S.length) (48:UInt8)=Z at*
    have dm:IntKind.max .i64=9223372036854775807:=rfl
    have ZM:¬(9223372036854775807:Int)<(Z.length:Int)+(S.length:Int):=by omega
    simp[hf,a4,a5,a6,lq,lr,KK,zc,gE,dm,DW,ZM,ae,e1]
    exact⟨Q,by omega,by omega,⟨e2,e3,q,v',_,by simp,by simp,lq,e4,e5,e6⟩⟩
structure Oj (hb:T O) (n0 b:Nat) (gs:List aQ) (pre:aQ) (k:Nat) (r:T V) (st:St):Prop where
 hk:k<=gs.length
 wL:r.get 11=some (.int .i64 ((k:Int)-1))
 w:ar n0 st.w=[]
 Oe:∀i,i<b->st.h.get i=hb.get i
 bd:Bd st.h st.n b (pre++(gs.drop k).reverse.flatten)
def Ykp(gs:List aQ)(k:Nat):gs.reverse.flatten=(gs.drop k).reverse.flatten++(gs.take k).reverse.flatten:=by
 conv=>lhs;rw[<-CT k gs]
 rw[List.reverse_append,List.flatten_append]
def Yh3{j:Nat}{s:aQ}(h:gs[j]?=some s):(wN gs).flatten[j]?=some (.str s):=by
 have:∀gs:List aQ,(wN gs).flatten=gs.map V.str:=by
  intro gs
  induction gs with
  |nil=>rfl
  |cons a gs ih=>show V.str a::(wN gs).flatten=_;rw[ih];rfl
 rw[this,fm,h];rfl
def Yh5{hb:T O}{nB n0 b k:Nat}{gs:List aQ}{pre:aQ}{v:V}{r r0:T V}{sT:St}(jE:n0<=b)(hl:pre.length+gs.reverse.flatten.length<1000000000000)(yo:gs.length<1000000000000)(aW:∀s∈gs,s≠[])(ho:Own 1 9 nB hb b v (wN gs))(a6:r.get 6=some v)(Ie:r.get 10=some (.ptr b 0))(hf:Fx [(11,11),(59,67)] r0 69 ⟨r,69,[]⟩)(s:Oj hb n0 b gs pre k r sT):
  Code A.C none A.nA ⟨r,69,[]⟩ sT (Rd [(11,11),(59,67)] r0 69 (Oj hb n0 b gs pre) k (fun e r st=>e=.exit 2/\Oj hb n0 b gs pre 0 r st)):=by
 obtain⟨H,n1,W⟩:=sT
 obtain⟨hk,Ck,hW,hO,F3⟩:=s
 simp only at hW hO F3
 rw[bb]
 cases k with
 |zero=>
  have c1:¬(0:Int)<=((0:Nat):Int)-1:=by omega
  have Ok:r.get 11=some (.int .i64 (-1)):=Ck
  simp[A.nA,hf,Ok]
  exact⟨hk,by simp[Ok],hW,hO,F3⟩
 |succ j=>
  have e1:((j+1:Nat):Int)-1=(j:Int):=by omega
  rw[e1]at Ck
  obtain⟨g,hg⟩:∃g,gs[j]?=some g:=⟨_,cF (by omega)⟩
  have Dy:=Yh3 hg
  have lv:=ho.len
  have lg:(wN gs).length=gs.length:=by simp[wN]
  rw[lg]at lv
  have HR:(j:Int)<(gs.length:Int):=by omega
  rcases ho with⟨_,⟨h1,_⟩|⟨i,rfl,h2,h3,h4⟩⟩
  ·exfalso
   have:gs=[]:=by simpa[wN]using h1
   subst this;simp at hk
  ·have al:=(hO i h3).trans h4
   have IK:(gs.drop j).reverse.flatten=(gs.drop (j+1)).reverse.flatten++g:=by
    have:gs.drop j=g::gs.drop (j+1):=by
     rw[GZ (by omega)]
     congr 1
     rw[cF (by omega)]at hg
     simpa using hg
    rw[this,List.reverse_cons,List.flatten_append];simp
   have ZN:=congrArg List.length (Ykp gs j)
   rw[IK,iN,iN]at ZN
   simp[A.nA,hf,a6,Ie,Ck,lv,al,Dy,HR,lg]
   refine An (Ycd jE F3 (aW g (bM hg)) (by rw[iN];omega)) ?_
   rintro _ ⟨H2,n2,W2⟩ ⟨hn,dZ,xY,pY⟩
   simp only at hn dZ xY pY
   subst hn
   simp(disch:=first|(simp;done)|omega|(simp only[bB,cC,bo];omega)|rfl) [hf,Ck]
   refine⟨j,by omega,by omega,by simp,by rw[dZ,hW],fun i hi=>(xY i hi).trans (hO i hi),?_⟩
   rw[IK,<-tU];exact pY
def Ycx{hb:T O}{n0:Nat}{pre:aQ}(jE:n0<=b)(hl:pre.length+gs.reverse.flatten.length<1000000000000)(yo:gs.length<1000000000000)(aW:∀s∈gs,s≠[])(SB:pre++gs.reverse.flatten≠[])(ho:Own 1 9 nB hb b v (wN gs))(a6:r.get 6=some v)(Ie:r.get 10=some (.ptr b 0))
  (hW:ar n0 sT.w=[]) (hO:∀i,i<b->sT.h.get i=hb.get i) (F3:Bd sT.h sT.n b pre):
  Code A.C none A.sq ⟨r,69,[]⟩ sT (fun e fr st=>e=.ret/\∃r',fr=⟨r',69,[]⟩/\r'.get 2=some (.str (pre++gs.reverse.flatten))/\ar n0 st.w=[]/\(∀i,i<b->st.h.get i=hb.get i)/\b<=st.n):=by
 obtain⟨H,n1,W⟩:=sT
 simp only at hW hO F3
 rw[bb]
 have lv:=ho.len
 rw[show (wN gs).length=gs.length by simp[wN]]at lv
 simp(disch:=omega) [A.sq,a6,lv]
 refine bA [(11,11),(59,67)] (fun e r st=>e=.exit 2/\Oj hb n0 b gs pre 0 r st) (Oj hb n0 b gs pre) gs.length ?_ ?_ ?_
 ·exact⟨aO _,by simp,hW,hO,by simpa using F3⟩
 ·intro k r' aA hr hf J
  exact Yh5 jE hl yo aW ho (by rw[hr 6 (by decide)];simp[a6]) (by rw[hr 10 (by decide)];simp[Ie]) hf J
 ·rintro e r' ⟨H2,n2,W2⟩ hr ⟨rfl,hk,_,dZ,xY,pY⟩
  simp only at dZ xY pY
  rw[zq]at pY
  have hb3:=pY.1
  have ZO:r'.get 10=some (.ptr b 0):=by rw[hr 10 (by decide)];simp[Ie]
  simp[ZO]
  refine An (Yra jE pY SB (by rw[iN];omega)) ?_
  rintro _ ⟨H3,n3,W3⟩ ⟨rfl,hn,BK,EA⟩
  simp only at hn BK EA
  subst hn
  simp[]
  exact⟨by rw[BK,dZ],fun i hi=>(EA i hi).trans (xY i hi),by omega⟩
def SC{x:V}{z:Int}{h:T O}{N:Nat}(hx:In h N x z)(hP:lE h N)(hl:(de z.natAbs).length<100000000000):Fn A.C 160 [x] h N (fun v h' N'=>v=.str (aL z)):=by
 intro w
 rw[aM,A.k160 (by simp)]
 rcases id hx with⟨rfl,h1,h2⟩|⟨i0,o0,l0,c0,rfl,hw0,tr⟩
 ·simp[A.b160,aR,aC,ae,aJ]
  refine ay (Yp1 h1 h2 (hP.ad (aN ab.refl _))) ?_
  rintro _ h3 n3 k3 rfl
  simp[az]
  exact(aN ab.refl _).trans k3
 ·simp[A.b160,aR,aC,ae,aJ]
  refine ay (DL (hx.ad (aN ab.refl (.cells [.int .i64 (za z),.slice i0 o0 l0 c0 1] 106 true)))) ?_
  rintro _ h1 n1 k1 ⟨u,rfl,hu⟩
  obtain⟨M,hM⟩:∃M,z.natAbs=M:=⟨_,rfl⟩
  rw[hM]at hu hl
  have hM0:M≠0:=by omega
  have lu:=hu.len
  rw[bB]at lu
  have kN:=(aN (ab.refl (h:=h) (n:=N)) (.cells [.int .i64 (za z),.slice i0 o0 l0 c0 1] 106 true)).trans k1
  have kT:=aN (ab.refl (h:=h1) (n:=n1)) (.cells [.int .u64 1000000000000000000] 200 true)
  have hT:Wn (h1.set n1 (.cells [.int .u64 1000000000000000000] 200 true)) (n1+1) (.slice n1 0 1 (some 1) 1) 1000000000000000000:=by
   unfold Wn
   rw[Io (by decide) (by decide)]
   exact Sl.row (e:=200) (rw:=true) (L:=1) (by omega) (by simp[dg]) (by simp) (by simp)
  simp[aR,aC,ae]
  generalize jb:h1.set n1 (.cells [.int .u64 1000000000000000000] 200 true)=hB at*
  have hPB:=(hP.ad kN).ad kT
  refine bA [(4,4),(6,9),(24,53)] (fun e r st=>e=.exit 0/\Oi hB (n1+1) M 0 r st) (fun k r st=>k<=M/\Oi hB (n1+1) M k r st) M ?_ ?_ ?_
  ·exact⟨aO _,by simp[ar],ab.refl,u,.aa,[],by simp,by simp,lu,fun _=>hu.ad kT,Own.nil,rfl⟩
  ·rintro m r st hr hf ⟨hm,J⟩
   exact Yh6 hPB hl hm hT (by rw[hr 5 (by decide)];simp) hf J
  ·rintro e r ⟨H,n2,W⟩ hr ⟨rfl,hW,hK,u2,v,gs,a4,a6,_,_,ho,hg⟩
   rw[Sz,yK]at hg
   subst hg
   simp only at hW hK ho
   have fk:=hK.le
   have ye:=kN.le
   have a3:r.get 3=some (.bool (decide (z<0))):=by rw[hr 3 (by decide)];simp
   have l7:=Yp9 hM0
   have yo:(su M).length<1000000000000:=rK Yfp (by omega)
   have iw:(aq M).length<100000000000:=by rw[II hM0];exact hl
   have wu:Bd (H.set n2 (.cells [.bF,.aa] 219 true)) (n2+1) n2 []:=⟨vS _,.bF,.aa,by rw[T.ag,ax rfl],.inl rfl,.inl ⟨rfl,rfl⟩⟩
   by_cases hz:z<0
   ·have Cn:aL z=[45]++(su M).reverse.flatten:=by unfold aL;rw[ax hz,hM,l7];rfl
    simp[a3,hz]
    refine An (Ycd (n0:=n1+1) fk wu (t:=[45]) (by decide) (by decide)) ?_
    rintro _ ⟨H2,n3,W2⟩ ⟨hn,dZ,xY,pY⟩
    simp only at hn dZ xY pY
    subst hn
    simp[]
    refine lG (Ycx (nB:=n1+1) (n0:=n1+1) (b:=n2) (hb:=H) (gs:=su M) (pre:=[45]) (v:=v) fk (by rw[l7];simp;omega) yo (fun s hs=>Ymh hs) (by simp) ho (by simp[a6]) (by simp) (by rw[dZ,hW]) (fun i hi=>by rw[xY i hi,T.ag,ak (by omega)]) pY) ?_
    rintro e fr ⟨H6,n6,W6⟩ ⟨rfl,r6,rfl,g2,g3,g4,g5⟩
    simp only at g3 g4 g5
    have ZP:=Ky (show N<=n1+1 by omega) g3
    simp[g2,az,ZP,Cn]
    exact⟨by omega,fun i hi=>by rw[g4 i (by omega),hK.get i (by omega),<-jb,T.ag,ak (by omega),kN.get i hi]⟩
   ·have Cn:aL z=[]++(su M).reverse.flatten:=by unfold aL;rw[ak hz,hM,l7];rfl
    simp[a3,hz]
    refine lG (Ycx (nB:=n1+1) (n0:=n1+1) (b:=n2) (hb:=H) (gs:=su M) (pre:=[]) (v:=v) fk (by rw[l7];simp;omega) yo (fun s hs=>Ymh hs) (by rw[List.nil_append,l7];exact HT M) ho (by simp[a6]) (by simp) hW (fun i hi=>by rw[T.ag,ak (by omega)]) wu) ?_
    rintro e fr ⟨H6,n6,W6⟩ ⟨rfl,r6,rfl,g2,g3,g4,g5⟩
    simp only at g3 g4 g5
    have ZP:=Ky (show N<=n1+1 by omega) g3
    simp[g2,az,ZP,Cn]
    exact⟨by omega,fun i hi=>by rw[g4 i (by omega),hK.get i (by omega),<-jb,T.ag,ak (by omega),kN.get i hi]⟩
variable {N:Nat} {a b z:Int} {h:T O} {x:V}
set_option maxHeartbeats 2000000
def A.b153:=A.q Tryz.f153
def A.k153:=@A.kk 153 6 [.cell 2 (some 4)] A.b153 (by kernel_rfl) rfl
def A.b98:=A.q Tryz.f98
def A.k98:=@A.kk 98 6 [.cell 2 (some 4)] A.b98 (by kernel_rfl) rfl
def A.b152:=A.q Tryz.f152
def A.k152:=@A.kk 152 13 [.tmp 2] A.b152 (by kernel_rfl) rfl
def A.nD:bN:=sr [lN 24 2 2,lN 25 2 3,c2 26 194 24 25,ge 5 (.alloc [.int .i64 0,.aa] 106),gn (.store 2 (tq 5) (tq 26))]
 (.seq (.dc [lN 27 2 2,lN 28 2 5,c2 29 201 27 28,lN 30 2 3,lN 31 2 5,c2 32 201 30 31,ge 33 (.build [.int .i64 0,.aa,.int .i64 0,.aa] [(0,2,(tq 29)),(2,2,(tq 32))]),gn (.store 4 (tq 4) (tq 33))] [0,0,3,0,0,31,63,127])
 (.ret))
def A.iD:bN:=.seq (sr [fa 13 1 3,ld 14 13,ge 15 (.bin .eql (.bI .slice) true (tq 14) (.const .aa)),mv 16 15,gy 17 16 (.i_ 0 (tq 3)),gy 18 16 (.load none (tq 17)),gy 19 16 (.bin .eql (.bI .int) true (tq 18) (kq 1)),pf 20 16 19]
 (cd 20
 (sr [lN 21 2 2,lN 22 2 3,ge 23 (.build [.int .i64 0,.aa,.int .i64 0,.aa] [(0,2,(tq 21)),(2,2,(tq 22))]),gn (.store 4 (tq 4) (tq 23))]
 (.ret))
 (.skip)))
 A.nD
def A.b155:bN:=sr [bx 2 106 0,bx 3 106 1,ge 4 (.alloc [.int .i64 0,.aa,.int .i64 0,.aa] 108)]
 (.seq (sr [lN 6 2 3,c1 7 175 6,bc 8 .lss 7 0]
 (cd 8
 (.dc [lN 9 2 2,c1 10 189 9,lN 11 2 3,c1 12 189 11,gn (.store 2 (tq 2) (tq 10)),gn (.store 2 (tq 3) (tq 12))] [0,1,0,7,15,31])
 (.skip)))
 A.iD)
def A.k155:=@A.kk 155 34 [.cell 4 (some 4)] A.b155 (by kernel_rfl) rfl
def Fc(h:T O)(N:Nat)(x:V)(q:Rat):Prop:=∃n1 u1 n2 u2,x=.agg [.int .i64 n1,u1,.int .i64 n2,u2]/\In h N (.agg [.int .i64 n1,u1]) q.num/\In h N (.agg [.int .i64 n2,u2]) (q.den:Nat)
def Fc.ad{h':T O}{N':Nat}{q:Rat}(s:Fc h N x q)(k:ab h N h' N'):Fc h' N' x q:=by
 obtain⟨n1,u1,n2,u2,rfl,s1,s2⟩:=s
 exact⟨n1,u1,n2,u2,rfl,s1.ad k,s2.ad k⟩
def dG{n:Int}{u:V}(s:In h N (.agg [.int .i64 n,u]) z):V.one u=true:=by
 obtain⟨n',u',e,h1⟩:=s.cells
 simp at e
 rw[e.2];exact h1
def ZQ(hx:In h N x z):Fn A.C 153 [x] h N (fun v h' N'=>Fc h' N' v (z:Rat)):=by
 intro w
 rw[aM,A.k153 (by simp)]
 obtain⟨n,u,rfl,hu⟩:=hx.cells
 have mS:=hu
 unfold V.one at mS
 simp[A.b153,aR,aC,ae,mS]
 refine ay Il ?_
 rintro _ h1 n1 k1 rfl
 have ye:=k1.le
 have g0:=k1.get (N+1) (by omega)
 simp at g0
 simp[aR,aC,ae,bD,g0,mS,cn.cr,az]
 have kk:=(((aN (aN ab.refl (.cells [.int .i64 n,u] 106 true)) (.cells [.int .i64 0,.aa,.int .i64 0,.aa] 108 true)).trans k1).set (h:=h) (n:=N) (i:=N+1) (o:=.cells [.int .i64 n,u,.int .i64 1,.aa] 108 true) (by omega))
 refine⟨?_,kk,n,u,1,.aa,rfl,?_,?_⟩
 ·split<;>simp[ar]
 ·exact hx.ad kk
 ·exact In.small (by decide) (by decide)
def Ytn(h1: -9223372036854775808<=z)(h2:z<9223372036854775808){h:T O}{N:Nat}:Fn A.C 98 [.int .i64 z] h N (fun v h' N'=>Fc h' N' v (z:Rat)):=by
 intro w
 rw[aM,A.k98 (by simp)]
 simp[A.b98]
 refine ay Il ?_
 rintro _ h3 n3 k3 rfl
 simp[]
 refine ay (ZQ (In.small h1 h2)) ?_
 rintro _ h4 n4 k4 ⟨n1,u1,n2,u2,rfl,s1,s2⟩
 have ye:=k3.le
 have uE:=k4.le
 have g0:=(k4.get N (by omega)).trans (k3.get N (by omega))
 simp at g0
 have o1:=dG s1
 have o2:=dG s2
 unfold V.one at o1 o2
 simp[aR,aC,ae,bD,g0,o1,o2,cn.cr,az]
 have kk:=(((aN (ab.refl (h:=h) (n:=N)) (.cells [.int .i64 0,.aa,.int .i64 0,.aa] 108 true)).trans k3).trans k4).set (h:=h) (n:=N) (i:=N) (o:=.cells [.int .i64 n1,u1,.int .i64 n2,u2] 108 true) (by omega)
 have g1:=(k4.get N (by omega)).trans (k3.get N (by omega))
 rw[T.ag,ax rfl]at g1
 have hn:∀x∈[V.int .i64 0,V.aa,V.int .i64 0,V.aa],∀m,x≠.int .u64 m:=by
  intro x hx m hc
  simp at hx
  rcases hx with rfl|rfl|rfl|rfl<;>cases hc
 exact⟨kk,n1,u1,n2,u2,rfl,s1.aH g1 hn rfl,s2.aH g1 hn rfl⟩
def oh:∀x∈[V.int .i64 0,V.aa,V.int .i64 0,V.aa],∀m,x≠.int .u64 m:=by
 intro x hx m hc
 simp at hx
 rcases hx with rfl|rfl|rfl|rfl<;>cases hc
structure SD (H:T O) (N:Nat) (q:Rat) (st:St):Prop where
 w:ar N st.w=[]
 old:∀i,i<N->st.h.get i=H.get i
 le:N+3<=st.n
 ex:∃n1 u1 n2 u2,st.h.get (N+2)=some (.cells [.int .i64 n1,u1,.int .i64 n2,u2] 108 true)/\Fc st.h st.n (.agg [.int .i64 n1,u1,.int .i64 n2,u2]) q
def Yxu{H:T O}{n:Nat}{W:List Nat}{r:T V}{n1 n2:Int}{u1 u2:V}(hn:N+3<=n)(hW:ar N W=[])(g1:H.get N=some (.cells [.int .i64 n1,u1] 106 true))(g2:H.get (N+1)=some (.cells [.int .i64 n2,u2] 106 true))(g3:H.get (N+2)=some (.cells [.int .i64 0,.aa,.int .i64 0,.aa] 108 true))
  (hx:In H n (.agg [.int .i64 n1,u1]) a) (hy:In H n (.agg [.int .i64 n2,u2]) b) (hb:0<b) (la:wl a<10000000000) (lb:wl b<10000000000) (a2:r.get 2=some (.ptr N 0)) (a3:r.get 3=some (.ptr (N+1) 0)) (a4:r.get 4=some (.ptr (N+2) 0)):
  Code A.C none A.nD ⟨r,34,[]⟩ ⟨H,n,W⟩ (fun e fr st=>e=.ret/\∃r',fr=⟨r',34,[]⟩/\r'.get 4=some (.ptr (N+2) 0)/\SD H N (Rat.divInt a b) st):=by
 rw[bb]
 have o1:=dG hx
 have o2:=dG hy
 unfold V.one at o1 o2
 simp[A.nD,a2,a3,a4,g1,g2,aR,aC,ae]
 refine ay (Ymj hx hy la lb) ?_
 rintro _ h1 m1 k1 hg
 obtain⟨ng,ug,rfl,hug⟩:=hg.cells
 have IL:=hug
 unfold V.one at IL
 have ye:=k1.le
 have Cw:=(k1.get N (by omega)).trans g1
 have qj:=(k1.get (N+1) (by omega)).trans g2
 have Ej:=(k1.get (N+2) (by omega)).trans g3
 have d1:¬N=m1:=by omega
 have d2:¬N+1=m1:=by omega
 have d3:¬N+2=m1:=by omega
 have e1:N<m1+1:=by omega
 have e2:N+1<m1+1:=by omega
 have e3:N+2<m1+1:=by omega
 have pV:0<Int.gcd a b:=Int.gcd_pos_of_ne_zero_right a (by omega)
 obtain⟨G,hG⟩:∃G,Int.gcd a b=G:=⟨_,rfl⟩
 rw[hG]at pV hg
 have hGb:(G:Int)<=b:=by
  rw[<-hG]
  exact Int.le_of_dvd hb (Int.gcd_dvd_right ..)
 have lg:wl (G:Int)<10000000000:=rK (Iv (by omega)) lb
 have kS:ab h1 m1 ((h1.set m1 (.cells [.int .i64 0,.aa] 106 true)).set m1 (.cells [.int .i64 ng,ug] 106 true)) (m1+1):=(aN ab.refl _).set (aO _)
 simp[a2,a3,a4,Cw,qj,d1,d2,d3,aR,aC,ae,bD,IL,o1,o2,e1,e2]
 refine ay (Yl4 ((hx.ad k1).ad kS) (hg.ad kS) (by omega) la lg) ?_
 rintro _ h2 m2 k2 qo
 obtain⟨n3,u3,rfl,KL⟩:=qo.cells
 have o3:=KL
 unfold V.one at o3
 have kT:=(k1.trans kS).trans k2
 have gI:=kT.le
 have f1:=(kT.get N (by omega)).trans g1
 have f2:=(kT.get (N+1) (by omega)).trans g2
 have f3:=(kT.get (N+2) (by omega)).trans g3
 have f5:=k2.get m1 (by omega)
 rw[T.ag,ax rfl]at f5
 have je:=k2.le
 have e4:N+1<m2:=by omega
 have e5:m1<m2:=by omega
 have e6:N+2<m2:=by omega
 simp[a2,a3,a4,f1,f2,f5,aR,aC,ae,bD,IL,o1,o2,o3,e4,e5]
 refine ay (Yl4 ((hy.ad kT)) ((hg.ad kS).ad k2) (by omega) lb lg) ?_
 rintro _ h3 m3 k3 km
 obtain⟨n4,u4,rfl,Of⟩:=km.cells
 have o4:=Of
 unfold V.one at o4
 have kU:=kT.trans k3
 have uE:=kU.le
 have f6:=(kU.get (N+2) (by omega)).trans g3
 have e7:N+2<m3:=by omega
 simp[a4,f6,aR,aC,ae,bD,o3,o4,e7,cn.cr]
 have ZR:(Rat.divInt a b).num=a/(G:Int):=by
  rw[Rat.num_divInt,Int.sign_eq_one_of_pos hb,Int.one_mul,Int.gcd_comm,hG]
 have ZS:((Rat.divInt a b).den:Int)=b/(G:Int):=by
  rw[Rat.den_divInt,ak (by omega),Int.gcd_comm,hG,Int.natCast_ediv,Int.natAbs_of_nonneg (by omega)]
 have kY:¬N+2<N:=by omega
 have ZT:¬m1<N:=by omega
 refine⟨by simp[ar,hW,kY,ZT],fun i hi=>?_,by show N+3<=m3;omega,n3,u3,n4,u4,by show T.get (T.set _ _ _) _=_;rw[T.ag,ax rfl],n3,u3,n4,u4,rfl,?_,?_⟩
 ·show T.get (T.set _ _ _) _=_
  rw[T.ag,ak (by omega),kU.get i (by omega)]
 ·rw[ZR];exact(qo.ad k3).aH f6 oh rfl
 ·rw[ZS];exact km.aH f6 oh rfl
def Yxt{H:T O}{n:Nat}{W:List Nat}{r:T V}{n1 n2:Int}{u1 u2:V}(hn:N+3<=n)(hW:ar N W=[])(g1:H.get N=some (.cells [.int .i64 n1,u1] 106 true))(g2:H.get (N+1)=some (.cells [.int .i64 n2,u2] 106 true))(g3:H.get (N+2)=some (.cells [.int .i64 0,.aa,.int .i64 0,.aa] 108 true))
  (hx:In H n (.agg [.int .i64 n1,u1]) a) (hy:In H n (.agg [.int .i64 n2,u2]) b) (hb:0<b) (la:wl a<10000000000) (lb:wl b<10000000000) (a2:r.get 2=some (.ptr N 0)) (a3:r.get 3=some (.ptr (N+1) 0)) (a4:r.get 4=some (.ptr (N+2) 0)):
  Code A.C none A.iD ⟨r,34,[]⟩ ⟨H,n,W⟩ (fun e fr st=>e=.ret/\∃r',fr=⟨r',34,[]⟩/\r'.get 4=some (.ptr (N+2) 0)/\SD H N (Rat.divInt a b) st):=by
 rw[bb]
 have o1:=dG hx
 have o2:=dG hy
 unfold V.one at o1 o2
 have fin:∀r':T V,r'.get 2=some (.ptr N 0)->r'.get 3=some (.ptr (N+1) 0)->r'.get 4=some (.ptr (N+2) 0)->bz A.C [] (eK (A.C.code none A.nD ⟨r',34,[]⟩ ⟨H,n,W⟩)) (XK (fun e fr st=>e=.ret/\∃r',fr=⟨r',34,[]⟩/\r'.get 4=some (.ptr (N+2) 0)/\SD H N (Rat.divInt a b) st)):=fun r' b2 b3 b4=>bb.1 (Yxu hn hW g1 g2 g3 hx hy hb la lb b2 b3 b4)
 have yk:=hy
 rcases yk with⟨e0,_,_⟩|⟨i,o,l,c,e0,_,_⟩
 ·simp only[V.agg.injEq,gU,V.int.injEq,true_and,and_true]at e0
  obtain⟨rfl,rfl⟩:=e0
  by_cases c1:n2=1
  ·subst c1
   simp[A.iD,a2,a3,a4,g1,g2,g3,aR,aC,ae,aJ,bD,o1]
   have kY:¬N+2<N:=by omega
   refine⟨by simp[ar,hW,kY],fun i hi=>?_,hn,n1,u1,1,.aa,by show T.get (T.set _ _ _) _=_;rw[T.ag,ax rfl],n1,u1,1,.aa,rfl,?_,?_⟩
   ·show T.get (T.set _ _ _) _=_
    rw[T.ag,ak (by omega)]
   ·rw[show (Rat.divInt a 1).num=a by rw[Rat.num_divInt];simp];exact hx.aH g3 oh rfl
   ·rw[show ((Rat.divInt a 1).den:Int)=1 by rw[Rat.den_divInt];simp];exact In.small (by decide) (by decide)
  ·simp[A.iD,a2,a3,a4,g1,g2,g3,aR,aC,ae,aJ,bD,o1,c1]
   exact fin _ (by simp[a2]) (by simp[a3]) (by simp[a4])
 ·simp only[V.agg.injEq,gU,V.int.injEq,true_and,and_true]at e0
  obtain⟨rfl,rfl⟩:=e0
  simp[A.iD,a2,a3,a4,g1,g2,g3,aR,aC,ae,aJ,bD,o1]
  exact fin _ (by simp[a2]) (by simp[a3]) (by simp[a4])
def ZU{y:V}(hx:In h N x a)(hy:In h N y b)(hb:b≠0)(la:wl a<10000000000)(lb:wl b<10000000000):Fn A.C 155 [x,y] h N (fun v h' n'=>Fc h' n' v (Rat.divInt a b)):=by
 intro w
 rw[aM,A.k155 (by simp)]
 obtain⟨n1,u1,rfl,yL⟩:=hx.cells
 obtain⟨n2,u2,rfl,fy⟩:=hy.cells
 have o1:=yL
 have o2:=fy
 unfold V.one at o1 o2
 have kB:ab h N (((h.set N (.cells [.int .i64 n1,u1] 106 true)).set (N+1) (.cells [.int .i64 n2,u2] 106 true)).set (N+2) (.cells [.int .i64 0,.aa,.int .i64 0,.aa] 108 true)) (N+3):=aN (aN (aN ab.refl _) _) _
 have done:∀(r:T V) (h1:T O) (m:Nat) (W1:List Nat) (a' b' qL kY:Int) (ZV ZW:V),N+3<=m->ar N W1=[]->(∀i,i<N->h1.get i=h.get i)->h1.get N=some (.cells [.int .i64 qL,ZV] 106 true)->h1.get (N+1)=some (.cells [.int .i64 kY,ZW] 106 true)->h1.get (N+2)=some (.cells [.int .i64 0,.aa,.int .i64 0,.aa] 108 true)->
   In h1 m (.agg [.int .i64 qL,ZV]) a'->In h1 m (.agg [.int .i64 kY,ZW]) b'->0<b'->wl a'<10000000000->wl b'<10000000000->Rat.divInt a' b'=Rat.divInt a b->r.get 2=some (.ptr N 0)->r.get 3=some (.ptr (N+1) 0)->r.get 4=some (.ptr (N+2) 0)->
   bz A.C [.fin [.cell 4 (some 4)] ⟨h,N,w⟩] (eK (A.C.code none A.iD ⟨r,34,[]⟩ ⟨h1,m,W1⟩)) (Dl (az (fun v h' n'=>Fc h' n' v (Rat.divInt a b)) h N w)):=by
  intro r h1 m W1 a' b' qL kY ZV ZW hm Fq hO g1 g2 g3 i1 i2 pC FY Sk hq b2 b3 b4
  refine lG (Yxt hm Fq g1 g2 g3 i1 i2 pC FY Sk b2 b3 b4) ?_
  rintro e fr ⟨H6,n6,W6⟩ ⟨rfl,r6,rfl,c4,q1,q2,q3,m1,v1,m2,v2,q4,q5⟩
  simp only at q1 q2 q3 q4 q5
  rw[hq]at q5
  simp[c4,q4,aR,aC,az,q1]
  exact⟨⟨by omega,fun i hi=>(q2 i hi).trans (hO i hi)⟩,q5⟩
 simp[A.b155,aR,aC,ae,o1,o2]
 generalize jb:((h.set N (.cells [.int .i64 n1,u1] 106 true)).set (N+1) (.cells [.int .i64 n2,u2] 106 true)).set (N+2) (.cells [.int .i64 0,.aa,.int .i64 0,.aa] 108 true)=hB at*
 have b1:hB.get N=some (.cells [.int .i64 n1,u1] 106 true):=by rw[<-jb];simp
 have b2:hB.get (N+1)=some (.cells [.int .i64 n2,u2] 106 true):=by rw[<-jb];simp
 have b3:hB.get (N+2)=some (.cells [.int .i64 0,.aa,.int .i64 0,.aa] 108 true):=by rw[<-jb];simp
 refine ay (Im (hy.ad kB)) ?_
 rintro _ h1 m1 k1 rfl
 have kk:=kB.trans k1
 have ye:=kk.le
 have eY:=k1.le
 have f1:=(k1.get N (by omega)).trans b1
 have f2:=(k1.get (N+1) (by omega)).trans b2
 have f3:=(k1.get (N+2) (by omega)).trans b3
 by_cases hbn:b<0
 ·have s1:dL b= -1:=by unfold dL;rw[ax hbn]
  have l1:N<m1:=by omega
  simp[s1,f1,f2,l1,aR,aC,ae]
  refine ay (KC (hx.ad kk) (by omega)) ?_
  rintro _ h2 m2 k2 q1
  obtain⟨n3,u3,rfl,KL⟩:=q1.cells
  have o3:=KL
  unfold V.one at o3
  have gI:=k2.le
  have f4:=(k2.get N (by omega)).trans f1
  have f5:=(k2.get (N+1) (by omega)).trans f2
  have f6:=(k2.get (N+2) (by omega)).trans f3
  have l2:N+1<m2:=by omega
  simp[f4,f5,l2,aR,aC,ae]
  refine ay (KC ((hy.ad kk).ad k2) (by omega)) ?_
  rintro _ h3 m3 k3 q2
  obtain⟨n4,u4,rfl,Of⟩:=q2.cells
  have o4:=Of
  unfold V.one at o4
  have je:=k3.le
  have f7:=(k3.get N (by omega)).trans f4
  have f8:=(k3.get (N+1) (by omega)).trans f5
  have f9:=(k3.get (N+2) (by omega)).trans f6
  have l3:N+1<m3:=by omega
  have l4:N<m3:=by omega
  simp[f7,f8,l3,l4,aR,aC,ae,bD,o3,o4,cn.cr]
  have i1:=(q1.ad k3).aH (c1:=[.int .i64 n3,u3]) (e1:=106) (w1:=true) f7 hx.nu rfl
  have i2:=q2.aH (c1:=[.int .i64 n3,u3]) (e1:=106) (w1:=true) f7 hx.nu rfl
  have f8':((h3.set N (.cells [.int .i64 n3,u3] 106 true)):T O).get (N+1)=some (.cells [.int .i64 n2,u2] 106 true):=by rw[T.ag,ak (by omega)];exact f8
  have j1:=i1.aH (c1:=[.int .i64 n4,u4]) (e1:=106) (w1:=true) f8' hy.nu rfl
  have j2:=i2.aH (c1:=[.int .i64 n4,u4]) (e1:=106) (w1:=true) f8' hy.nu rfl
  have l5:¬N+1<N:=by omega
  exact done _ _ _ _ (-a) (-b) n3 n4 u3 u4 (by omega) (by simp[ar,l5]) (fun i hi=>by rw[T.ag,ak (by omega),T.ag,ak (by omega),k3.get i (by omega),k2.get i (by omega),kk.get i hi]) (by rw[T.ag,ak (by omega),T.ag,ax rfl]) (by rw[T.ag,ax rfl]) (by rw[T.ag,ak (by omega),T.ag,ak (by omega)];exact f9) j1 j2 (by omega) (by rw[Ol];exact la) (by rw[Ol];exact lb) (Rat.neg_divInt_neg a b) (by simp) (by simp) (by simp)
 ·have s1:dL b=1:=by unfold dL;rw[ak hbn,ak hb]
  simp[s1]
  exact done _ _ _ _ a b n1 n2 u1 u2 (by omega) (by simp[ar]) (fun i hi=>kk.get i hi) f1 f2 f3 (hx.ad kk) (hy.ad kk) (by omega) la lb rfl (by simp) (by simp) (by simp)
set_option maxHeartbeats 2000000
def A.b86:=A.q Tryz.f86
def A.k86:=@A.kk 86 16 [.cell 4 (some 4)] A.b86 (by kernel_rfl) rfl
def Qr{x y:V}{p q:Rat}{h:T O}{N:Nat}(hx:Fc h N x p)(hy:Fc h N y q)(l1:wl p.num<1000000000)(l2:wl (p.den:Nat)<1000000000)(l3:wl q.num<1000000000)(l4:wl (q.den:Nat)<1000000000):Fn A.C 86 [x,y] h N (fun v h' n'=>Fc h' n' v (p*q)):=by
 intro w
 rw[aM,A.k86 (by simp)]
 obtain⟨n1,u1,n2,u2,rfl,s1,s2⟩:=hx
 obtain⟨n3,u3,n4,u4,rfl,s3,s4⟩:=hy
 have o1:=dG s1
 have o2:=dG s2
 have o3:=dG s3
 have o4:=dG s4
 unfold V.one at o1 o2 o3 o4
 have kB:ab h N (((h.set N (.cells [.int .i64 n1,u1,.int .i64 n2,u2] 108 true)).set (N+1) (.cells [.int .i64 n3,u3,.int .i64 n4,u4] 108 true)).set (N+2) (.cells [.int .i64 0,.aa,.int .i64 0,.aa] 108 true)) (N+3):=aN (aN (aN ab.refl _) _) _
 simp[A.b86,aR,aC,ae,o1,o2,o3,o4]
 generalize jb:((h.set N (.cells [.int .i64 n1,u1,.int .i64 n2,u2] 108 true)).set (N+1) (.cells [.int .i64 n3,u3,.int .i64 n4,u4] 108 true)).set (N+2) (.cells [.int .i64 0,.aa,.int .i64 0,.aa] 108 true)=hB at*
 have b1:hB.get N=some (.cells [.int .i64 n1,u1,.int .i64 n2,u2] 108 true):=by rw[<-jb];simp
 have b2:hB.get (N+1)=some (.cells [.int .i64 n3,u3,.int .i64 n4,u4] 108 true):=by rw[<-jb];simp
 have b3:hB.get (N+2)=some (.cells [.int .i64 0,.aa,.int .i64 0,.aa] 108 true):=by rw[<-jb];simp
 refine ay (Be (s1.ad kB) (s3.ad kB) (by omega) (by omega)) ?_
 rintro v5 h1 m1 k1 q1
 have eY:=k1.le
 have f1:=(k1.get N (by omega)).trans b1
 have f2:=(k1.get (N+1) (by omega)).trans b2
 have f3:=(k1.get (N+2) (by omega)).trans b3
 have e1:N<m1:=by omega
 have e2:N+1<m1:=by omega
 simp[f1,f2,e1,e2,aR,aC,ae]
 refine ay (Be ((s2.ad kB).ad k1) ((s4.ad kB).ad k1) (by omega) (by omega)) ?_
 rintro v6 h2 m2 k2 q2
 have gI:=k2.le
 have f4:=(k2.get (N+2) (by omega)).trans f3
 simp[]
 have hd:((p.den:Nat):Int)*((q.den:Nat):Int)≠0:=by
  have:=p.den_nz
  have:=q.den_nz
  exact JN (by omega) (by omega)
 refine ay (ZU (q1.ad k2) q2 hd ?_ ?_) ?_
 ·have:=DX p.num q.num
  omega
 ·have:=DX ((p.den:Nat):Int) ((q.den:Nat):Int)
  omega
 ·rintro v7 h3 m3 k3 hv
  rw[<-Rat.divInt_mul_divInt,Aw,Aw]at hv
  obtain⟨n5,u5,n6,u6,rfl,t1,t2⟩:=hv
  have o5:=dG t1
  have o6:=dG t2
  unfold V.one at o5 o6
  have je:=k3.le
  have f5:=(k3.get (N+2) (by omega)).trans f4
  have e3:N+2<m3:=by omega
  simp[f5,e3,aR,aC,ae,bD,o5,o6,cn.cr,az]
  have kk:=((kB.trans k1).trans k2).trans k3
  exact⟨kk.set (by omega),n5,u5,n6,u6,rfl,t1.aH (i:=N+2) f5 oh rfl,t2.aH (i:=N+2) f5 oh rfl⟩
def ZX{x:V}{q:Rat}{h:T O}{N:Nat}(hx:Fc h N x q):Fn A.C 152 [x] h N (fun v _ _=>v=.bool (decide (q.den=1))):=by
 intro w
 rw[aM,A.k152 (by simp)]
 obtain⟨n1,u1,n2,u2,rfl,s1,s2⟩:=hx
 have o1:=dG s1
 have o2:=dG s2
 unfold V.one at o1 o2
 rcases s2 with⟨e0,_,_⟩|⟨i,o,l,c,e0,_,hz⟩
 ·simp only[V.agg.injEq,gU,V.int.injEq,true_and,and_true]at e0
  obtain⟨rfl,rfl⟩:=e0
  by_cases c1:q.den=1
  ·have c2:((q.den:Nat):Int)=1:=by omega
   simp[A.b152,aR,aC,ae,o1,aJ,c1,c2,az]
   exact aN ab.refl _
  ·have c2:¬((q.den:Nat):Int)=1:=by omega
   simp[A.b152,aR,aC,ae,o1,aJ,c1,c2,az]
   exact aN ab.refl _
 ·simp only[V.agg.injEq,gU,V.int.injEq,true_and,and_true]at e0
  obtain⟨rfl,rfl⟩:=e0
  have c1:¬q.den=1:=by omega
  simp[A.b152,aR,aC,ae,o1,aJ,c1,az]
  exact aN ab.refl _
end
end Go.Mx
