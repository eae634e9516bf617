/-
  num.Int: String.
-/
import Derived.Test.YtlbophlgohokkaaGreatDoorNcB
set_option linter.all false
namespace Go.Mx
open Go Go.Proofs
variable {b nB:Nat} {gs:List a_} {r:T V} {sT:St} {v:V}
set_option maxHeartbeats 4000000
set_option maxRecDepth 1000000
def A.lh:aq:=.seq (sr [mv 59 11,bc 60 .geq 59 0]
 (cd 60
 (.skip)
 (.exit 2)))
 (.seq (.block 3 (.aM [mv 63 6,mv 64 11,ia 65 1 63 64,ld 66 65,c2 67 245 10 66]))
 (.aM [mv 61 11,bc 62 .sub 61 1,mv 11 62]))
def A.ll:aq:=.seq (sr [mv 24 4,ln 25 24,bc 26 .gtr 25 0]
 (cd 26
 (.skip)
 (.exit 0)))
 (.block 1 (sr [mv 28 4,mv 29 5,c2 30 242 28 29,mv 27 30,xt 31 27 0,xt 32 27 1,mv 7 31,mv 8 32]
 (sr [⟨(some 9),.aY (.const (.str [48])),none⟩]
 (.seq (sr [mv 33 8,ln 34 33,bc 35 .gtr 34 0]
 (cd 35
 (.aM [mv 36 8,⟨(some 37),.aN 1 (.tmp 36) (.const (.int .i64 0)),none⟩,ld 38 37,⟨(some 39),.call (.const (.func 243 [] [])) [(.tmp 38),(.const (.int .i64 10))],none⟩,mv 9 39])
 (.skip)))
 (.seq (sr [mv 40 7,ln 41 40,bc 42 .gtr 41 0]
 (cd 42
 (.aM [mv 43 9,⟨(some 44),.len 0 (.tmp 43),none⟩,⟨(some 45),.bin .sub (.node []) false (.const (.int .i64 18)) (.tmp 44),none⟩,⟨(some 46),.call (.const (.func 244 [] [])) [(.const (.str [48])),(.tmp 45)],none⟩,mv 47 9,bi 48 .add 46 47,mv 9 48])
 (.skip)))
 (sr [mv 49 6,mv 50 9,⟨(some 51),.aO 9 1 1 [(.str [])] [(0,1,(.tmp 50))],none⟩,⟨(some 52),.append 1 16 9 [(.str [])] (.tmp 49) (.tmp 51),none⟩,mv 6 52]
 (.aM [mv 53 7,mv 4 53])))))))
def A.pj:aq:=.seq (sr [mv 56 6,ln 57 56,bc 58 .sub 57 1,mv 11 58]
 (.block 2 (.loop A.lh)))
 (sr [c1 68 246 10,mv 2 68]
 (.ret))
def A.b172:aq:=sr [bx 1 112 0,⟨(some 2),.aY (.const (.str [])),none⟩]
 (.seq (sr [fa 12 1 1,ld 13 12,⟨(some 14),.bin .eql (.aI .slice) true (.tmp 13) (.const .aa),none⟩]
 (cd 14
 (sr [fa 15 0 1,ld 16 15,c1 17 241 16,mv 2 17]
 (.ret))
 (.skip)))
 (sr [lN 19 2 1,c1 20 222 19,mv 18 20,xt 21 18 0,xt 22 18 1,mv 3 21,mv 4 22]
 (sr [⟨(some 23),.aO 214 1 1 [(.int .u64 0)] [(0,1,(.const (.int .u64 1000000000000000000)))],none⟩,mv 5 23]
 (sr [mN 6]
 (.seq (.block 0 (.loop A.ll))
 (sr [⟨(some 10),.alloc [.bD,.aa] 241,none⟩]
 (.seq (sr [mv 54 3]
 (cd 54
 (.aM [⟨(some 55),.call (.const (.func 245 [] [])) [(.tmp 10),(.const (.str [45]))],none⟩])
 (.skip)))
 A.pj)))))))
theorem A.c172:A.F 172=some ⟨69,[.tmp 2],A.b172⟩:=by kernel_rfl
def A.k172:=@A.kk 172 _ _ _ A.c172 rfl
def pk(n:Nat):List a_:=if h:n=0 then [] else (if n/1000000000000000000=0 then ak n else gl (n%1000000000000000000) 18)::pk (n/1000000000000000000)
termination_by n
decreasing_by omega
theorem NC:pk 0=[]:=by unfold pk;simp
theorem ND{n:Nat}(h:n≠0):pk n=(if n/1000000000000000000=0 then ak n else gl (n%1000000000000000000) 18)::pk (n/1000000000000000000):=by
 conv=>lhs;unfold pk
 rw[dif_neg h]
theorem Yll:∀{n:Nat},n≠0->(pk n).reverse.flatten=ak n:=by
 intro n
 induction n using Nat.strongRecOn with
 |_ n ih=>
  intro h
  rw[ND h]
  by_cases h0:n/1000000000000000000=0
  ·rw[aF h0,h0,NC];simp
  ·rw[au h0,List.reverse_cons,List.flatten_append,ih _ (by omega) h0,EE h,EE h0]
   have e:=YA (k:=18) (a:=n/1000000000000000000) (b:=n%1000000000000000000) h0 (jg _ (by decide))
   rw[show n/1000000000000000000*10^18+n%1000000000000000000=n by have:=ri n 1000000000000000000;omega]at e
   rw[e];simp
theorem Zsg{a:Nat}(h:a<=b):(cJ a).length<=(cJ b).length:=nd.1 (qc h (nd.2 (aS _)))
theorem Yco:∀{n:Nat},(pk n).length<=(cJ n).length:=by
 intro n
 induction n using Nat.strongRecOn with
 |_ n ih=>
  by_cases h:n=0
  ·subst h;rw[NC];simp
  ·rw[ND h,bh,ux h,fQ]
   have h1:=ih (n/1000000000000000000) (by omega)
   have h2:=Zsg (a:=n/1000000000000000000) (b:=n/10) (by omega)
   simp;omega
theorem Yik:∀{n:Nat} {s:a_},s∈pk n->s≠[]:=by
 intro n
 induction n using Nat.strongRecOn with
 |_ n ih=>
  intro s hs
  by_cases h:n=0
  ·subst h;rw[NC]at hs;cases hs
  ·rw[ND h]at hs
   rcases kb.1 hs with hs|hs
   ·subst hs
    split
    ·exact GF n
    ·intro hc
     have:=Yg3 (b:=n%1000000000000000000) (k:=18) (jg _ (by decide))
     rw[hc]at this;simp at this
   ·exact ih _ (by omega) hs
def sP(l:List a_):List (List V):=l.map fun s=>[.str s]
theorem Yna{q:V}{Q n n':Nat}{h h':T O}{e:TypeId}(hq:Wn h n q Q)(hQ:Q≠0)(hv:Own 1 e nB h n v (sP gs))(hh:∀j,j<n->h'.get j=h.get j\/(∃o m c y,v=.slice j o m c y))(hn:n<=n'):Wn h' n' q Q:=by
 obtain⟨d,hd⟩:∃d,(aC Q)[0]?=some d:=by rw[ku hQ];exact⟨_,rfl⟩
 rcases hq with⟨hz,_⟩|⟨i,o,cp,c,ee,rw,rfl,q1,q2,q3,q4⟩
 ·rw[ku hQ]at hz;simp[dg]at hz
 ·refine .inr ⟨i,o,cp,c,ee,rw,rfl,eY q1 hn,?_,q3,q4⟩
  rcases hh i q1 with h1|⟨o',m,c',y,rfl⟩
  ·rw[h1];exact q2
  ·exfalso
   rcases hv with⟨_,⟨_,h1⟩|⟨i',h1,_,_,h2⟩⟩
   ·cases h1
   ·simp only[V.slice.injEq]at h1
    obtain⟨rfl,_⟩:=h1
    rw[q2]at h2
    simp only[aj,O.cells.injEq]at h2
    have h3:=q3 0 (by rw[bl,ku hQ];simp)
    rw[eW hd,h2.1]at h3
    have:=du h3
    obtain⟨l,hl,hx⟩:=List.mem_flatten.1 this
    obtain⟨s,_,rfl⟩:=iy.1 hl
    simp at hx
structure J3 (hB:T O) (nB M:Nat) (m:Nat) (r:T V) (st:St):Prop where
 w:ad nB st.w=[]
 ae:ab hB nB st.h st.n
 ex:∃u v gs,r.get 4=some u/\r.get 6=some v/\ki u=some (aC m).length/\(m≠0->Wn st.h st.n u m)/\Own 1 9 nB st.h st.n v (sP gs)/\gs++pk m=pk M
theorem Yer{hB:T O}{M m:Nat}{r0:T V}{t:V}(hP:jm hB nB)(hM:(cJ M).length<100000000000)(hm:m<=M)(ht:Wn hB nB t 1000000000000000000)(a5:r.get 5=some t)(hf:Fx [(4,4),(6,9),(24,53)] r0 69 ⟨r,69,[]⟩)(s:J3 hB nB M m r sT):
  Code A.C none A.ll ⟨r,69,[]⟩ sT (Rd [(4,4),(6,9),(24,53)] r0 69 (fun k r st=>k<=M/\J3 hB nB M k r st) m (fun e r st=>e=.exit 0/\J3 hB nB M 0 r st)):=by
 obtain⟨H,n1,W⟩:=sT
 obtain⟨hW,hK,u,v,gs,a4,a6,lu,hu,ho,hg⟩:=s
 simp only at hW hK hu ho
 rw[bA]
 by_cases h0:m=0
 ·subst h0
  rw[oX]at lu
  simp[A.ll,hf,a4,lu]
  exact⟨hW,hK,u,v,gs,by simp[a4],by simp[a6],by rw[oX];exact lu,hu,ho,hg⟩
 ·replace hu:=hu h0
  have lp:0<(aC m).length:=by rw[ku h0];simp
  have lp':(0:Int)<((aC m).length:Int):=by omega
  have RQ:(aC m).length<1000000000000:=by
   have h1:=Co (n:=m) (k:=(cJ M).length) (nd.2 (Zsg hm))
   unfold wl at h1
   simp at h1
   omega
  have AL:(aC 1000000000000000000).length<1000000000000:=by rw[Ei (by decide) (by decide)];decide
  have uG:gs.length+(pk m).length<=(cJ M).length:=by
   rw[<-fQ,hg];exact Yco
  have rC:=ND h0
  rw[rC,bh]at uG
  simp[A.ll,a4,a5,lu,lp]
  refine ax (Zv hu (ht.ae hK) (by decide) RQ AL) ?_
  rintro _ h2 n2 k2 ⟨q,Nd,rfl,hq,IJ⟩
  have lq:=hq.len
  have lr:=IJ.len
  rw[bl]at lq lr
  have xO:m%1000000000000000000<18446744073709551616:=by omega
  obtain⟨R,hR⟩:∃R,m%1000000000000000000=R:=⟨_,rfl⟩
  obtain⟨Q,hQ⟩:∃Q,m/1000000000000000000=Q:=⟨_,rfl⟩
  rw[hR]at lr IJ rC
  rw[hQ]at lq hq rC uG
  have kk:=hK.trans k2
  have v_:=hP.ae kk
  have app:∀(h3:T O) (n3:Nat) (W3:List Nat) (g:a_),ab h2 n2 h3 n3->ad nB W3=[]->g=(if Q=0 then ak m else gl R 18)->
    ∃v' h' w',jQ ⟨h3.set n3 (.cells [.str g] 9 true),n3+1,W3⟩ 1 16 9 v (.slice n3 0 1 (some 1) 1)=some (v',⟨h',n3+1+1,w'⟩)/\ad nB w'=[]/\ab hB nB h' (n3+1+1)/\(Q≠0->Wn h' (n3+1+1) q Q)/\Own 1 9 nB h' (n3+1+1) v' (sP (gs++[g]))/\(gs++[g])++pk Q=pk M:=by
   intro h3 n3 W3 g k3 mU mQ
   have kk3:=kk.trans k3
   have eX:=kk3.le
   have uB:=(ho.ae (k2.trans k3)).ae (aL ab.refl (.cells [.str g] 9 true))
   obtain⟨v',h',w',e1,e2,e3,e4,e5⟩:=pU (x:=[.str g]) (u:=.slice n3 0 1 (some 1) 1) (bytes:=16) (w:=W3) uB (by omega) (by decide) rfl (by simp[eC,St.row,aJ]) (by simp[sP];omega)
   refine⟨v',h',w',e1,by rw[e2];exact mU,(kk3.trans (aL ab.refl _)).then e3,fun AM=>?_,by simpa[sP]using e5,by rw[mQ,<-hg,rC,qw];rfl⟩
   have TT:=(hq.ae k3).ae (aL ab.refl (.cells [.str g] 9 true))
   refine Yna TT AM uB (fun j hj=>?_) (uW _)
   rcases e4 j with h1|h1|h1
   ·exact .inl h1
   ·omega
   ·exact .inr h1
  have f18:((18:Int)-1)=((17:Nat):Int):=rfl
  by_cases En:R=0
  ·have AM:Q≠0:=by omega
   have Ux:0<(aC Q).length:=by rw[ku AM];simp
   have Uy:(0:Int)<((aC Q).length:Int):=by omega
   have mQ:[48,48,48,48,48,48,48,48,48,48,48,48,48,48,48,48,48,48]=(if Q=0 then ak m else gl R 18):=by rw[au AM,En];unfold gl;rw[qR];rfl
   rw[En,oX]at lr
   simp[lq,lr,Ux]
   refine ax (Zra (k:=17) (by decide)) ?_
   rintro _ h3 n3 k3 rfl
   obtain⟨v',h',w',e1,e2,e3,e4,e5,e6⟩:=app h3 n3 W _ k3 hW mQ
   simp[hf,a6,gj,ag,e1]
   exact⟨Q,by omega,by omega,⟨e2,e3,q,v',_,by simp,by simp,lq,e4,e5,e6⟩⟩
  ·have hRw:aC R=[R]:=Ei (by unfold B;omega) En
   obtain⟨i,o,c,e,wr,p1,p2,p3,p4⟩:=IJ.at (eW (l:=aC R) (j:=0) (n:=R) (by rw[hRw];rfl))
   rw[hRw]at lr
   have lr:ki Nd=some 1:=lr
   have Uz:=EE En
   rw[re]at p4
   by_cases AM:Q=0
   ·have mQ:ak R=(if Q=0 then ak m else gl R 18):=by rw[aF AM];congr 1;omega
    have lqz:(aC Q).length=0:=by rw[AM,oX];rfl
    rw[lqz]at lq
    simp[lr,p1,p3,p4]
    refine ax (Yim (x:=R) (by omega) v_) ?_
    rintro _ h3 n3 k3 rfl
    obtain⟨v',h',w',e1,e2,e3,e4,e5,e6⟩:=app h3 n3 W _ k3 hW mQ
    simp[hf,a6,lq,ag,e1]
    exact⟨Q,by omega,by omega,⟨e2,e3,q,v',_,by simp,by simp,by rw[lqz];exact lq,e4,e5,e6⟩⟩
   ·have Ux:0<(aC Q).length:=by rw[ku AM];simp
    have Uy:(0:Int)<((aC Q).length:Int):=by omega
    have zax:(cJ R).length<=18:=nd.1 (by omega)
    have mQ:List.replicate (18-(ak R).length) 48++ak R=(if Q=0 then ak m else gl R 18):=by rw[au AM,Uz];rfl
    have hs:(18:Int)-((ak R).length:Int)=((18-(ak R).length:Nat):Int):=by rw[Uz];omega
    have AN:¬(9223372036854775807:Int)<(((List.replicate (18-(ak R).length) (48:UInt8)).length+(ak R).length:Nat):Int):=by rw[List.length_replicate,Uz];omega
    simp[lr,p1,p3,p4]
    refine ax (Yim (x:=R) (by omega) v_) ?_
    rintro _ h3 n3 k3 rfl
    generalize ak R=S at*
    simp(disch:=omega) [lq,Ux,hs]
    refine ax (Zra (k:=18-S.length) (by omega)) ?_
    rintro _ h4 n4 k4 rfl
    obtain⟨v',h',w',e1,e2,e3,e4,e5,e6⟩:=app h4 n4 W _ (k3.trans k4) hW mQ
    generalize List.replicate (18-S.length) (48:UInt8)=Z at*
    have di:IntKind.max .i64=9223372036854775807:=rfl
    have UA:¬(9223372036854775807:Int)<(Z.length:Int)+(S.length:Int):=by omega
    simp[hf,a6,gj,di,UA,ag,e1]
    exact⟨Q,by omega,by omega,⟨e2,e3,q,v',_,by simp,by simp,lq,e4,e5,e6⟩⟩
structure J4 (hb:T O) (n0 b:Nat) (gs:List a_) (pre:a_) (k:Nat) (r:T V) (st:St):Prop where
 hk:k<=gs.length
 sM:r.get 11=some (.int .i64 ((k:Int)-1))
 w:ad n0 st.w=[]
 JZ:∀i,i<b->st.h.get i=hb.get i
 bd:Bd st.h st.n b (pre++(gs.drop k).reverse.flatten)
theorem Ygx(gs:List a_)(k:Nat):gs.reverse.flatten=(gs.drop k).reverse.flatten++(gs.take k).reverse.flatten:=by
 conv=>lhs;rw[<-yD k gs]
 rw[List.reverse_append,List.flatten_append]
theorem Yeo{j:Nat}{s:a_}(h:gs[j]?=some s):(sP gs).flatten[j]?=some (.str s):=by
 have:∀gs:List a_,(sP gs).flatten=gs.map V.str:=by
  intro gs
  induction gs with
  |nil=>rfl
  |cons a gs ih=>show V.str a::(sP gs).flatten=_;rw[ih];rfl
 rw[this,jf,h];rfl
theorem Yeq{hb:T O}{nB n0 b k:Nat}{gs:List a_}{pre:a_}{v:V}{r r0:T V}{sT:St}(uw:n0<=b)(hl:pre.length+gs.reverse.flatten.length<1000000000000)(uG:gs.length<1000000000000)(bJ:∀s∈gs,s≠[])(ho:Own 1 9 nB hb b v (sP gs))(a6:r.get 6=some v)(CK:r.get 10=some (.ptr b 0))(hf:Fx [(11,11),(59,67)] r0 69 ⟨r,69,[]⟩)(s:J4 hb n0 b gs pre k r sT):
  Code A.C none A.lh ⟨r,69,[]⟩ sT (Rd [(11,11),(59,67)] r0 69 (J4 hb n0 b gs pre) k (fun e r st=>e=.exit 2/\J4 hb n0 b gs pre 0 r st)):=by
 obtain⟨H,n1,W⟩:=sT
 obtain⟨hk,yu,hW,hO,GZ⟩:=s
 simp only at hW hO GZ
 rw[bA]
 cases k with
 |zero=>
  have c1:¬(0:Int)<=((0:Nat):Int)-1:=by omega
  have J5:r.get 11=some (.int .i64 (-1)):=yu
  simp[A.lh,hf,J5]
  exact⟨hk,by simp[J5],hW,hO,GZ⟩
 |succ j=>
  have e1:((j+1:Nat):Int)-1=(j:Int):=by omega
  rw[e1]at yu
  obtain⟨g,hg⟩:∃g,gs[j]?=some g:=⟨_,dk (by omega)⟩
  have uE:=Yeo hg
  have lv:=ho.len
  have lg:(sP gs).length=gs.length:=by simp[sP]
  rw[lg]at lv
  have wh:(j:Int)<(gs.length:Int):=by omega
  rcases ho with⟨_,⟨h1,_⟩|⟨i,rfl,h2,h3,h4⟩⟩
  ·exfalso
   have:gs=[]:=by simpa[sP]using h1
   subst this;simp at hk
  ·have ar:=(hO i h3).trans h4
   have EG:(gs.drop j).reverse.flatten=(gs.drop (j+1)).reverse.flatten++g:=by
    have:gs.drop j=g::gs.drop (j+1):=by
     rw[CV (by omega)]
     congr 1
     rw[dk (by omega)]at hg
     simpa using hg
    rw[this,List.reverse_cons,List.flatten_append];simp
   have UB:=congrArg List.length (Ygx gs j)
   rw[EG,fQ,fQ]at UB
   simp[A.lh,a6,CK,yu,ar,uE,wh,lg]
   refine yX (Zzp uw GZ (bJ g (du hg)) (by rw[fQ];omega)) ?_
   rintro _ ⟨H2,n2,W2⟩ ⟨hn,eE,ud,oW⟩
   simp only at hn eE ud oW
   subst hn
   simp(disch:=first|(simp;done)|omega|(simp only[bl,bG,bh];omega)|rfl) [hf,yu]
   refine⟨j,by omega,by omega,by simp,by rw[eE,hW],fun i hi=>(ud i hi).trans (hO i hi),?_⟩
   rw[EG,<-qw];exact oW
theorem Zz3{hb:T O}{n0:Nat}{pre:a_}(uw:n0<=b)(hl:pre.length+gs.reverse.flatten.length<1000000000000)(uG:gs.length<1000000000000)(bJ:∀s∈gs,s≠[])(NF:pre++gs.reverse.flatten≠[])(ho:Own 1 9 nB hb b v (sP gs))(a6:r.get 6=some v)(CK:r.get 10=some (.ptr b 0))
  (hW:ad n0 sT.w=[]) (hO:∀i,i<b->sT.h.get i=hb.get i) (GZ:Bd sT.h sT.n b pre):
  Code A.C none A.pj ⟨r,69,[]⟩ sT (fun e fr st=>e=.ret/\∃r',fr=⟨r',69,[]⟩/\r'.get 2=some (.str (pre++gs.reverse.flatten))/\ad n0 st.w=[]/\(∀i,i<b->st.h.get i=hb.get i)/\b<=st.n):=by
 obtain⟨H,n1,W⟩:=sT
 simp only at hW hO GZ
 rw[bA]
 have lv:=ho.len
 rw[show (sP gs).length=gs.length by simp[sP]]at lv
 simp(disch:=omega) [A.pj,a6,lv]
 refine bQ [(11,11),(59,67)] (fun e r st=>e=.exit 2/\J4 hb n0 b gs pre 0 r st) (J4 hb n0 b gs pre) gs.length ?_ ?_ ?_
 ·exact⟨aS _,by simp,hW,hO,by simpa using GZ⟩
 ·intro k r' av hr hf J
  exact Yeq uw hl uG bJ ho (by rw[hr 6 (by decide)];simp[a6]) (by rw[hr 10 (by decide)];simp[CK]) hf J
 ·rintro e r' ⟨H2,n2,W2⟩ hr ⟨rfl,hk,_,eE,ud,oW⟩
  simp only at eE ud oW
  rw[yF]at oW
  have hb3:=oW.1
  have UC:r'.get 10=some (.ptr b 0):=by rw[hr 10 (by decide)];simp[CK]
  simp[UC]
  refine yX (Ymg uw oW NF (by rw[fQ];omega)) ?_
  rintro _ ⟨H3,n3,W3⟩ ⟨rfl,hn,mU,JH⟩
  simp only at hn mU JH
  subst hn
  simp[]
  exact⟨by rw[mU,eE],fun i hi=>(JH i hi).trans (ud i hi),by omega⟩
theorem NG{x:V}{z:Int}{h:T O}{N:Nat}(hx:In h N x z)(hP:jm h N)(hl:(cJ z.natAbs).length<100000000000):Fn A.C 172 [x] h N (fun v h' N'=>v=.str (aK z)):=by
 intro w
 rw[aR,A.k172 (by simp)]
 rcases id hx with⟨rfl,h1,h2⟩|⟨i0,o0,l0,c0,rfl,hw0,rp⟩
 ·simp[A.b172,aU,dJ]
  refine ax (Yld h1 h2 (hP.ae (aL ab.refl _))) ?_
  rintro _ h3 n3 k3 rfl
  simp[aA]
  exact(aL ab.refl _).trans k3
 ·simp[A.b172,aU,aJ,dJ]
  refine ax (AE (hx.ae (aL ab.refl (.cells [.int .i64 (vt z),.slice i0 o0 l0 c0 1] 112 true)))) ?_
  rintro _ h1 n1 k1 ⟨u,rfl,hu⟩
  obtain⟨M,hM⟩:∃M,z.natAbs=M:=⟨_,rfl⟩
  rw[hM]at hu hl
  have hM0:M≠0:=by omega
  have lu:=hu.len
  rw[bl]at lu
  have kN:=(aL (ab.refl (h:=h) (n:=N)) (.cells [.int .i64 (vt z),.slice i0 o0 l0 c0 1] 112 true)).trans k1
  have kT:=aL (ab.refl (h:=h1) (n:=n1)) (.cells [.int .u64 1000000000000000000] 214 true)
  have hT:Wn (h1.set n1 (.cells [.int .u64 1000000000000000000] 214 true)) (n1+1) (.slice n1 0 1 (some 1) 1) 1000000000000000000:=by
   unfold Wn
   rw[Ei (by decide) (by decide)]
   exact Sl.row (e:=214) (rw:=true) (L:=1) (by omega) (by simp[dg]) (by simp) (by simp)
  simp[ag]
  generalize iZ:h1.set n1 (.cells [.int .u64 1000000000000000000] 214 true)=hB at*
  have hPB:=(hP.ae kN).ae kT
  refine bQ [(4,4),(6,9),(24,53)] (fun e r st=>e=.exit 0/\J3 hB (n1+1) M 0 r st) (fun k r st=>k<=M/\J3 hB (n1+1) M k r st) M ?_ ?_ ?_
  ·exact⟨aS _,by simp[ad],ab.refl,u,.aa,[],by simp,by simp,lu,fun _=>hu.ae kT,Own.nil,rfl⟩
  ·rintro m r st hr hf ⟨hm,J⟩
   exact Yer hPB hl hm hT (by rw[hr 5 (by decide)];simp) hf J
  ·rintro e r ⟨H,n2,W⟩ hr ⟨rfl,hW,hK,u2,v,gs,a4,a6,_,_,ho,hg⟩
   rw[NC,uT]at hg
   subst hg
   simp only at hW hK ho
   have eX:=hK.le
   have uA:=kN.le
   have a3:r.get 3=some (.bool (decide (z<0))):=by rw[hr 3 (by decide)];simp
   have jO:=Yll hM0
   have uG:(pk M).length<1000000000000:=qc Yco (by omega)
   have jx:(ak M).length<100000000000:=by rw[EE hM0];exact hl
   have sh:Bd (H.set n2 (.cells [.bD,.aa] 241 true)) (n2+1) n2 []:=⟨rR _,.bD,.aa,by rw[T.ai,aF rfl],.inl rfl,.inl ⟨rfl,rfl⟩⟩
   by_cases hz:z<0
   ·have zn:aK z=[45]++(pk M).reverse.flatten:=by unfold aK;rw[aF hz,hM,jO];rfl
    simp[a3,hz]
    refine yX (Zzp (n0:=n1+1) eX sh (t:=[45]) (by decide) (by decide)) ?_
    rintro _ ⟨H2,n3,W2⟩ ⟨hn,eE,ud,oW⟩
    simp only at hn eE ud oW
    subst hn
    simp[]
    refine oU (Zz3 (nB:=n1+1) (n0:=n1+1) (b:=n2) (hb:=H) (gs:=pk M) (pre:=[45]) (v:=v) eX (by rw[jO];simp;omega) uG (fun s hs=>Yik hs) (by simp) ho (by simp[a6]) (by simp) (by rw[eE,hW]) (fun i hi=>by rw[ud i hi,T.ai,au (by omega)]) oW) ?_
    rintro e fr ⟨H6,n6,W6⟩ ⟨rfl,r6,rfl,g2,g3,g4,g5⟩
    simp only at g3 g4 g5
    have UD:=GR (show N<=n1+1 by omega) g3
    simp[g2,aA,UD,zn]
    exact⟨by omega,fun i hi=>by rw[g4 i (by omega),hK.get i (by omega),<-iZ,T.ai,au (by omega),kN.get i hi]⟩
   ·have zn:aK z=[]++(pk M).reverse.flatten:=by unfold aK;rw[au hz,hM,jO];rfl
    simp[a3,hz]
    refine oU (Zz3 (nB:=n1+1) (n0:=n1+1) (b:=n2) (hb:=H) (gs:=pk M) (pre:=[]) (v:=v) eX (by rw[jO];simp;omega) uG (fun s hs=>Yik hs) (by rw[List.nil_append,jO];exact GF M) ho (by simp[a6]) (by simp) hW (fun i hi=>by rw[T.ai,au (by omega)]) sh) ?_
    rintro e fr ⟨H6,n6,W6⟩ ⟨rfl,r6,rfl,g2,g3,g4,g5⟩
    simp only at g3 g4 g5
    have UD:=GR (show N<=n1+1 by omega) g3
    simp[g2,aA,UD,zn]
    exact⟨by omega,fun i hi=>by rw[g4 i (by omega),hK.get i (by omega),<-iZ,T.ai,au (by omega),kN.get i hi]⟩
variable {N:Nat} {a b z:Int} {h:T O} {x:V}
set_option maxHeartbeats 2000000
def A.b189:aq:=sr [bx 1 112 0,⟨(some 2),.alloc [(.int .i64 0),.aa,(.int .i64 0),.aa] 114,none⟩]
 (.seq (.aV [lN 3 2 1,⟨(some 4),.call (.const (.func 190 [] [])) [(.const (.int .i64 1))],none⟩,⟨(some 5),.build [(.int .i64 0),.aa,(.int .i64 0),.aa] [(0,2,(.tmp 3)),(2,2,(.tmp 4))],none⟩,⟨none,.store 4 (.tmp 2) (.tmp 5),none⟩] [0,0,3,7])
 (.ret))
theorem A.c189:A.F 189=some ⟨6,[.cell 2 (some 4)],A.b189⟩:=by kernel_rfl
def A.k189:=@A.kk 189 _ _ _ A.c189 rfl
def A.b118:aq:=sr [⟨(some 2),.alloc [(.int .i64 0),.aa,(.int .i64 0),.aa] 114,none⟩]
 (sr [mv 3 0,c1 4 190 3,c1 5 189 4,⟨none,.store 4 (.tmp 2) (.tmp 5),none⟩]
 (.ret))
theorem A.c118:A.F 118=some ⟨6,[.cell 2 (some 4)],A.b118⟩:=by kernel_rfl
def A.k118:=@A.kk 118 _ _ _ A.c118 rfl
def A.b171:aq:=sr [bx 1 114 0,⟨(some 2),.aY (.const (.bool false)),none⟩]
 (sr [fa 3 2 1,fa 4 1 3,ld 5 4,⟨(some 6),.bin .eql (.aI .slice) true (.tmp 5) (.const .aa),none⟩,mv 7 6,⟨(some 8),.de 2 (.tmp 1),(some (7,true))⟩,⟨(some 9),.de 0 (.tmp 8),(some (7,true))⟩,⟨(some 10),.load none (.tmp 9),(some (7,true))⟩,⟨(some 11),.bin .eql (.aI .int) true (.tmp 10) (.const (.int .i64 1)),(some (7,true))⟩,pf 12 7 11,mv 2 12]
 (.ret))
theorem A.c171:A.F 171=some ⟨13,[.tmp 2],A.b171⟩:=by kernel_rfl
def A.k171:=@A.kk 171 _ _ _ A.c171 rfl
def A.lA:aq:=sr [lN 24 2 2,lN 25 2 3,c2 26 216 24 25,⟨(some 5),.alloc [(.int .i64 0),.aa] 112,none⟩,⟨none,.store 2 (.tmp 5) (.tmp 26),none⟩]
 (.seq (.aV [lN 27 2 2,lN 28 2 5,c2 29 219 27 28,lN 30 2 3,lN 31 2 5,c2 32 219 30 31,⟨(some 33),.build [(.int .i64 0),.aa,(.int .i64 0),.aa] [(0,2,(.tmp 29)),(2,2,(.tmp 32))],none⟩,⟨none,.store 4 (.tmp 4) (.tmp 33),none⟩] [0,0,3,0,0,31,63,127])
 (.ret))
def A.gp:aq:=.seq (sr [fa 13 1 3,ld 14 13,⟨(some 15),.bin .eql (.aI .slice) true (.tmp 14) (.const .aa),none⟩,mv 16 15,⟨(some 17),.de 0 (.tmp 3),(some (16,true))⟩,⟨(some 18),.load none (.tmp 17),(some (16,true))⟩,⟨(some 19),.bin .eql (.aI .int) true (.tmp 18) (.const (.int .i64 1)),(some (16,true))⟩,pf 20 16 19]
 (cd 20
 (sr [lN 21 2 2,lN 22 2 3,⟨(some 23),.build [(.int .i64 0),.aa,(.int .i64 0),.aa] [(0,2,(.tmp 21)),(2,2,(.tmp 22))],none⟩,⟨none,.store 4 (.tmp 4) (.tmp 23),none⟩]
 (.ret))
 (.skip)))
 A.lA
def A.b156:aq:=sr [bx 2 112 0,bx 3 112 1,⟨(some 4),.alloc [(.int .i64 0),.aa,(.int .i64 0),.aa] 114,none⟩]
 (.seq (sr [lN 6 2 3,c1 7 199 6,bc 8 .lss 7 0]
 (cd 8
 (.aV [lN 9 2 2,c1 10 218 9,lN 11 2 3,c1 12 218 11,⟨none,.store 2 (.tmp 2) (.tmp 10),none⟩,⟨none,.store 2 (.tmp 3) (.tmp 12),none⟩] [0,1,0,7,15,31])
 (.skip)))
 A.gp)
theorem A.c156:A.F 156=some ⟨34,[.cell 4 (some 4)],A.b156⟩:=by kernel_rfl
def A.k156:=@A.kk 156 _ _ _ A.c156 rfl
def Fc(h:T O)(N:Nat)(x:V)(q:Rat):Prop:=∃n1 u1 n2 u2,x=.agg [.int .i64 n1,u1,.int .i64 n2,u2]/\In h N (.agg [.int .i64 n1,u1]) q.num/\In h N (.agg [.int .i64 n2,u2]) (q.den:Nat)
theorem Fc.ae{h':T O}{N':Nat}{q:Rat}(s:Fc h N x q)(k:ab h N h' N'):Fc h' N' x q:=by
 obtain⟨n1,u1,n2,u2,rfl,s1,s2⟩:=s
 exact⟨n1,u1,n2,u2,rfl,s1.ae k,s2.ae k⟩
theorem dt{n:Int}{u:V}(s:In h N (.agg [.int .i64 n,u]) z):V.one u=true:=by
 obtain⟨n',u',e,h1⟩:=s.cells
 simp at e
 rw[e.2];exact h1
theorem UE(hx:In h N x z):Fn A.C 189 [x] h N (fun v h' N'=>Fc h' N' v (z:Rat)):=by
 intro w
 rw[aR,A.k189 (by simp)]
 obtain⟨n,u,rfl,hu⟩:=hx.cells
 have mj:=hu
 unfold V.one at mj
 simp[A.b189,aU,aJ,mj]
 refine ax Eh ?_
 rintro _ h1 n1 k1 rfl
 have uA:=k1.le
 have g0:=k1.get (N+1) (by omega)
 simp at g0
 simp[aU,aJ,ag,bW,g0,mj,dw.dB,aA]
 have kk:=(((aL (aL ab.refl (.cells [.int .i64 n,u] 112 true)) (.cells [.int .i64 0,.aa,.int .i64 0,.aa] 114 true)).trans k1).set (h:=h) (n:=N) (i:=N+1) (o:=.cells [.int .i64 n,u,.int .i64 1,.aa] 114 true) (by omega))
 refine⟨?_,kk,n,u,1,.aa,rfl,?_,?_⟩
 ·split<;>simp[ad]
 ·exact hx.ae kk
 ·exact In.small (by decide) (by decide)
theorem NH(h1: -9223372036854775808<=z)(h2:z<9223372036854775808){h:T O}{N:Nat}:Fn A.C 118 [.int .i64 z] h N (fun v h' N'=>Fc h' N' v (z:Rat)):=by
 intro w
 rw[aR,A.k118 (by simp)]
 simp[A.b118]
 refine ax Eh ?_
 rintro _ h3 n3 k3 rfl
 simp[]
 refine ax (UE (In.small h1 h2)) ?_
 rintro _ h4 n4 k4 ⟨n1,u1,n2,u2,rfl,s1,s2⟩
 have uA:=k3.le
 have qY:=k4.le
 have g0:=(k4.get N (by omega)).trans (k3.get N (by omega))
 simp at g0
 have o1:=dt s1
 have o2:=dt s2
 unfold V.one at o1 o2
 simp[aU,aJ,ag,bW,g0,o1,o2,aA]
 have kk:=(((aL (ab.refl (h:=h) (n:=N)) (.cells [.int .i64 0,.aa,.int .i64 0,.aa] 114 true)).trans k3).trans k4).set (h:=h) (n:=N) (i:=N) (o:=.cells [.int .i64 n1,u1,.int .i64 n2,u2] 114 true) (by omega)
 have g1:=(k4.get N (by omega)).trans (k3.get N (by omega))
 rw[T.ai,aF rfl]at g1
 have hn:∀x∈[V.int .i64 0,V.aa,V.int .i64 0,V.aa],∀m,x≠.int .u64 m:=by
  intro x hx m hc
  simp at hx
  rcases hx with rfl|rfl|rfl|rfl<;>cases hc
 exact⟨kk,n1,u1,n2,u2,rfl,s1.aE g1 hn rfl,s2.aE g1 hn rfl⟩
theorem mD:∀x∈[V.int .i64 0,V.aa,V.int .i64 0,V.aa],∀m,x≠.int .u64 m:=by
 intro x hx m hc
 simp at hx
 rcases hx with rfl|rfl|rfl|rfl<;>cases hc
structure NI (H:T O) (N:Nat) (q:Rat) (st:St):Prop where
 w:ad N st.w=[]
 old:∀i,i<N->st.h.get i=H.get i
 le:N+3<=st.n
 ex:∃n1 u1 n2 u2,st.h.get (N+2)=some (.cells [.int .i64 n1,u1,.int .i64 n2,u2] 114 true)/\Fc st.h st.n (.agg [.int .i64 n1,u1,.int .i64 n2,u2]) q
theorem Ysm{H:T O}{n:Nat}{W:List Nat}{r:T V}{n1 n2:Int}{u1 u2:V}(hn:N+3<=n)(hW:ad N W=[])(g1:H.get N=some (.cells [.int .i64 n1,u1] 112 true))(g2:H.get (N+1)=some (.cells [.int .i64 n2,u2] 112 true))(g3:H.get (N+2)=some (.cells [.int .i64 0,.aa,.int .i64 0,.aa] 114 true))
  (hx:In H n (.agg [.int .i64 n1,u1]) a) (hy:In H n (.agg [.int .i64 n2,u2]) b) (hb:0<b) (la:wl a<10000000000) (lb:wl b<10000000000) (a2:r.get 2=some (.ptr N 0)) (a3:r.get 3=some (.ptr (N+1) 0)) (a4:r.get 4=some (.ptr (N+2) 0)):
  Code A.C none A.lA ⟨r,34,[]⟩ ⟨H,n,W⟩ (fun e fr st=>e=.ret/\∃r',fr=⟨r',34,[]⟩/\r'.get 4=some (.ptr (N+2) 0)/\NI H N (Rat.divInt a b) st):=by
 rw[bA]
 have o1:=dt hx
 have o2:=dt hy
 unfold V.one at o1 o2
 simp[A.lA,a2,a3,g1,g2,aU,aJ]
 refine ax (Yil hx hy la lb) ?_
 rintro _ h1 m1 k1 hg
 obtain⟨ng,ug,rfl,hug⟩:=hg.cells
 have J6:=hug
 unfold V.one at J6
 have uA:=k1.le
 have g1':=(k1.get N (by omega)).trans g1
 have NJ:=(k1.get (N+1) (by omega)).trans g2
 have g3':=(k1.get (N+2) (by omega)).trans g3
 have d1:¬N=m1:=by omega
 have d2:¬N+1=m1:=by omega
 have d3:¬N+2=m1:=by omega
 have e1:N<m1+1:=by omega
 have e2:N+1<m1+1:=by omega
 have e3:N+2<m1+1:=by omega
 have rC:0<Int.gcd a b:=Int.gcd_pos_of_ne_zero_right a (by omega)
 obtain⟨G,hG⟩:∃G,Int.gcd a b=G:=⟨_,rfl⟩
 rw[hG]at rC hg
 have hGb:(G:Int)<=b:=by
  rw[<-hG]
  exact Int.le_of_dvd hb (Int.gcd_dvd_right ..)
 have lg:wl (G:Int)<10000000000:=qc (Eo (by omega)) lb
 have kS:ab h1 m1 ((h1.set m1 (.cells [.int .i64 0,.aa] 112 true)).set m1 (.cells [.int .i64 ng,ug] 112 true)) (m1+1):=(aL ab.refl _).set (aS _)
 simp[a2,g1',d1,aU,aJ,ag,bW,J6,e1]
 refine ax (Yh4 ((hx.ae k1).ae kS) (hg.ae kS) (by omega) la lg) ?_
 rintro _ h2 m2 k2 nV
 obtain⟨n3,u3,rfl,G0⟩:=nV.cells
 have o3:=G0
 unfold V.one at o3
 have kT:=(k1.trans kS).trans k2
 have f_:=kT.le
 have f1:=(kT.get N (by omega)).trans g1
 have f2:=(kT.get (N+1) (by omega)).trans g2
 have f3:=(kT.get (N+2) (by omega)).trans g3
 have f5:=k2.get m1 (by omega)
 rw[T.ai,aF rfl]at f5
 have iX:=k2.le
 have e4:N+1<m2:=by omega
 have e5:m1<m2:=by omega
 have e6:N+2<m2:=by omega
 simp[a3,f2,f5,aU,aJ,e4,e5]
 refine ax (Yh4 ((hy.ae kT)) ((hg.ae kS).ae k2) (by omega) lb lg) ?_
 rintro _ h3 m3 k3 jK
 obtain⟨n4,u4,rfl,J0⟩:=jK.cells
 have o4:=J0
 unfold V.one at o4
 have kU:=kT.trans k3
 have qY:=kU.le
 have f6:=(kU.get (N+2) (by omega)).trans g3
 have e7:N+2<m3:=by omega
 simp[a4,f6,ag,bW,o3,o4,e7,dw.dB]
 have UF:(Rat.divInt a b).num=a/(G:Int):=by
  rw[Rat.num_divInt,Int.sign_eq_one_of_pos hb,Int.one_mul,Int.gcd_comm,hG]
 have UG:((Rat.divInt a b).den:Int)=b/(G:Int):=by
  rw[Rat.den_divInt,au (by omega),Int.gcd_comm,hG,Int.natCast_ediv,Int.natAbs_of_nonneg (by omega)]
 have nj:¬N+2<N:=by omega
 have n3':¬m1<N:=by omega
 refine⟨by simp[ad,hW,nj,n3'],fun i hi=>?_,by show N+3<=m3;omega,n3,u3,n4,u4,by show T.get (T.set _ _ _) _=_;rw[T.ai,aF rfl],n3,u3,n4,u4,rfl,?_,?_⟩
 ·show T.get (T.set _ _ _) _=_
  rw[T.ai,au (by omega),kU.get i (by omega)]
 ·rw[UF];exact(nV.ae k3).aE f6 mD rfl
 ·rw[UG];exact jK.aE f6 mD rfl
theorem Ysl{H:T O}{n:Nat}{W:List Nat}{r:T V}{n1 n2:Int}{u1 u2:V}(hn:N+3<=n)(hW:ad N W=[])(g1:H.get N=some (.cells [.int .i64 n1,u1] 112 true))(g2:H.get (N+1)=some (.cells [.int .i64 n2,u2] 112 true))(g3:H.get (N+2)=some (.cells [.int .i64 0,.aa,.int .i64 0,.aa] 114 true))
  (hx:In H n (.agg [.int .i64 n1,u1]) a) (hy:In H n (.agg [.int .i64 n2,u2]) b) (hb:0<b) (la:wl a<10000000000) (lb:wl b<10000000000) (a2:r.get 2=some (.ptr N 0)) (a3:r.get 3=some (.ptr (N+1) 0)) (a4:r.get 4=some (.ptr (N+2) 0)):
  Code A.C none A.gp ⟨r,34,[]⟩ ⟨H,n,W⟩ (fun e fr st=>e=.ret/\∃r',fr=⟨r',34,[]⟩/\r'.get 4=some (.ptr (N+2) 0)/\NI H N (Rat.divInt a b) st):=by
 rw[bA]
 have o1:=dt hx
 have o2:=dt hy
 unfold V.one at o1 o2
 have fin:∀r':T V,r'.get 2=some (.ptr N 0)->r'.get 3=some (.ptr (N+1) 0)->r'.get 4=some (.ptr (N+2) 0)->bF A.C [] (eL (A.C.code none A.lA ⟨r',34,[]⟩ ⟨H,n,W⟩)) (Sf (fun e fr st=>e=.ret/\∃r',fr=⟨r',34,[]⟩/\r'.get 4=some (.ptr (N+2) 0)/\NI H N (Rat.divInt a b) st)):=fun r' b2 b3 b4=>bA.1 (Ysm hn hW g1 g2 g3 hx hy hb la lb b2 b3 b4)
 have uC:=hy
 rcases uC with⟨e0,_,_⟩|⟨i,o,l,c,e0,_,_⟩
 ·simp only[V.agg.injEq,gK,V.int.injEq,true_and,and_true]at e0
  obtain⟨rfl,rfl⟩:=e0
  by_cases c1:n2=1
  ·subst c1
   simp[A.gp,a2,a3,a4,g1,g2,g3,aU,aJ,ag,dJ,bW,o1]
   have nj:¬N+2<N:=by omega
   refine⟨by simp[ad,hW,nj],fun i hi=>?_,hn,n1,u1,1,.aa,by show T.get (T.set _ _ _) _=_;rw[T.ai,aF rfl],n1,u1,1,.aa,rfl,?_,?_⟩
   ·show T.get (T.set _ _ _) _=_
    rw[T.ai,au (by omega)]
   ·rw[show (Rat.divInt a 1).num=a by rw[Rat.num_divInt];simp];exact hx.aE g3 mD rfl
   ·rw[show ((Rat.divInt a 1).den:Int)=1 by rw[Rat.den_divInt];simp];exact In.small (by decide) (by decide)
  ·simp[A.gp,a3,g2,aU,dJ,c1]
   exact fin _ (by simp[a2]) (by simp[a3]) (by simp[a4])
 ·simp only[V.agg.injEq,gK,V.int.injEq,true_and,and_true]at e0
  obtain⟨rfl,rfl⟩:=e0
  simp[A.gp,a3,g2,aU,dJ]
  exact fin _ (by simp[a2]) (by simp[a3]) (by simp[a4])
theorem UH{y:V}(hx:In h N x a)(hy:In h N y b)(hb:b≠0)(la:wl a<10000000000)(lb:wl b<10000000000):Fn A.C 156 [x,y] h N (fun v h' n'=>Fc h' n' v (Rat.divInt a b)):=by
 intro w
 rw[aR,A.k156 (by simp)]
 obtain⟨n1,u1,rfl,xh⟩:=hx.cells
 obtain⟨n2,u2,rfl,eS⟩:=hy.cells
 have o1:=xh
 have o2:=eS
 unfold V.one at o1 o2
 have kB:ab h N (((h.set N (.cells [.int .i64 n1,u1] 112 true)).set (N+1) (.cells [.int .i64 n2,u2] 112 true)).set (N+2) (.cells [.int .i64 0,.aa,.int .i64 0,.aa] 114 true)) (N+3):=aL (aL (aL ab.refl _) _) _
 have done:∀(r:T V) (h1:T O) (m:Nat) (W1:List Nat) (a' b' uH nj:Int) (UI UJ:V),N+3<=m->ad N W1=[]->(∀i,i<N->h1.get i=h.get i)->h1.get N=some (.cells [.int .i64 uH,UI] 112 true)->h1.get (N+1)=some (.cells [.int .i64 nj,UJ] 112 true)->h1.get (N+2)=some (.cells [.int .i64 0,.aa,.int .i64 0,.aa] 114 true)->
   In h1 m (.agg [.int .i64 uH,UI]) a'->In h1 m (.agg [.int .i64 nj,UJ]) b'->0<b'->wl a'<10000000000->wl b'<10000000000->Rat.divInt a' b'=Rat.divInt a b->r.get 2=some (.ptr N 0)->r.get 3=some (.ptr (N+1) 0)->r.get 4=some (.ptr (N+2) 0)->
   bF A.C [.fin [.cell 4 (some 4)] ⟨h,N,w⟩] (eL (A.C.code none A.gp ⟨r,34,[]⟩ ⟨h1,m,W1⟩)) (Ak (aA (fun v h' n'=>Fc h' n' v (Rat.divInt a b)) h N w)):=by
  intro r h1 m W1 a' b' uH nj UI UJ hm Ma hO g1 g2 g3 i1 i2 rP Cl Nm hq b2 b3 b4
  refine oU (Ysl hm Ma g1 g2 g3 i1 i2 rP Cl Nm b2 b3 b4) ?_
  rintro e fr ⟨H6,n6,W6⟩ ⟨rfl,r6,rfl,c4,q1,q2,q3,m1,v1,m2,v2,q4,q5⟩
  simp only at q1 q2 q3 q4 q5
  rw[hq]at q5
  simp[c4,q4,aU,aJ,aA,q1]
  exact⟨⟨by omega,fun i hi=>(q2 i hi).trans (hO i hi)⟩,q5⟩
 simp[A.b156,aU,aJ,o1,o2]
 generalize iZ:((h.set N (.cells [.int .i64 n1,u1] 112 true)).set (N+1) (.cells [.int .i64 n2,u2] 112 true)).set (N+2) (.cells [.int .i64 0,.aa,.int .i64 0,.aa] 114 true)=hB at*
 have b1:hB.get N=some (.cells [.int .i64 n1,u1] 112 true):=by rw[<-iZ];simp
 have b2:hB.get (N+1)=some (.cells [.int .i64 n2,u2] 112 true):=by rw[<-iZ];simp
 have b3:hB.get (N+2)=some (.cells [.int .i64 0,.aa,.int .i64 0,.aa] 114 true):=by rw[<-iZ];simp
 refine ax (GS (hy.ae kB)) ?_
 rintro _ h1 m1 k1 rfl
 have kk:=kB.trans k1
 have uA:=kk.le
 have eR:=k1.le
 have f1:=(k1.get N (by omega)).trans b1
 have f2:=(k1.get (N+1) (by omega)).trans b2
 have f3:=(k1.get (N+2) (by omega)).trans b3
 by_cases hbn:b<0
 ·have s1:fM b= -1:=by unfold fM;rw[aF hbn]
  have l1:N<m1:=by omega
  simp[s1,f1,l1,aU,aJ]
  refine ax (GU (hx.ae kk) (by omega)) ?_
  rintro _ h2 m2 k2 q1
  obtain⟨n3,u3,rfl,G0⟩:=q1.cells
  have o3:=G0
  unfold V.one at o3
  have f_:=k2.le
  have f4:=(k2.get N (by omega)).trans f1
  have f5:=(k2.get (N+1) (by omega)).trans f2
  have f6:=(k2.get (N+2) (by omega)).trans f3
  have l2:N+1<m2:=by omega
  simp[f5,l2,aU,aJ]
  refine ax (GU ((hy.ae kk).ae k2) (by omega)) ?_
  rintro _ h3 m3 k3 q2
  obtain⟨n4,u4,rfl,J0⟩:=q2.cells
  have o4:=J0
  unfold V.one at o4
  have iX:=k3.le
  have f7:=(k3.get N (by omega)).trans f4
  have f8:=(k3.get (N+1) (by omega)).trans f5
  have f9:=(k3.get (N+2) (by omega)).trans f6
  have l3:N+1<m3:=by omega
  have l4:N<m3:=by omega
  simp[f7,f8,l3,l4,ag,bW,o3,o4,dw.dB]
  have i1:=(q1.ae k3).aE (c1:=[.int .i64 n3,u3]) (e1:=112) (w1:=true) f7 hx.nu rfl
  have i2:=q2.aE (c1:=[.int .i64 n3,u3]) (e1:=112) (w1:=true) f7 hx.nu rfl
  have f8':((h3.set N (.cells [.int .i64 n3,u3] 112 true)):T O).get (N+1)=some (.cells [.int .i64 n2,u2] 112 true):=by rw[T.ai,au (by omega)];exact f8
  have j1:=i1.aE (c1:=[.int .i64 n4,u4]) (e1:=112) (w1:=true) f8' hy.nu rfl
  have j2:=i2.aE (c1:=[.int .i64 n4,u4]) (e1:=112) (w1:=true) f8' hy.nu rfl
  have l5:¬N+1<N:=by omega
  exact done _ _ _ _ (-a) (-b) n3 n4 u3 u4 (by omega) (by simp[ad,l5]) (fun i hi=>by rw[T.ai,au (by omega),T.ai,au (by omega),k3.get i (by omega),k2.get i (by omega),kk.get i hi]) (by rw[T.ai,au (by omega),T.ai,aF rfl]) (by rw[T.ai,aF rfl]) (by rw[T.ai,au (by omega),T.ai,au (by omega)];exact f9) j1 j2 (by omega) (by rw[J7];exact la) (by rw[J7];exact lb) (Rat.neg_divInt_neg a b) (by simp) (by simp) (by simp)
 ·have s1:fM b=1:=by unfold fM;rw[au hbn,au hb]
  simp[s1]
  exact done _ _ _ _ a b n1 n2 u1 u2 (by omega) (by simp[ad]) (fun i hi=>kk.get i hi) f1 f2 f3 (hx.ae kk) (hy.ae kk) (by omega) la lb rfl (by simp) (by simp) (by simp)
set_option maxHeartbeats 2000000
def A.b90:aq:=sr [bx 2 114 0,bx 3 114 1,⟨(some 4),.alloc [(.int .i64 0),.aa,(.int .i64 0),.aa] 114,none⟩]
 (.seq (.aV [fa 5 0 2,lN 6 2 5,fa 7 0 3,lN 8 2 7,c2 9 157 6 8,fa 10 2 2,lN 11 2 10,fa 12 2 3,lN 13 2 12,c2 14 157 11 13,c2 15 156 9 14,⟨none,.store 4 (.tmp 4) (.tmp 15),none⟩] [0,1,0,4,15,0,32,0,128,511,1023,2047])
 (.ret))
theorem A.c90:A.F 90=some ⟨16,[.cell 4 (some 4)],A.b90⟩:=by kernel_rfl
def A.k90:=@A.kk 90 _ _ _ A.c90 rfl
theorem Ycs{x y:V}{p q:Rat}{h:T O}{N:Nat}(hx:Fc h N x p)(hy:Fc h N y q)(l1:wl p.num<1000000000)(l2:wl (p.den:Nat)<1000000000)(l3:wl q.num<1000000000)(l4:wl (q.den:Nat)<1000000000):Fn A.C 90 [x,y] h N (fun v h' n'=>Fc h' n' v (p*q)):=by
 intro w
 rw[aR,A.k90 (by simp)]
 obtain⟨n1,u1,n2,u2,rfl,s1,s2⟩:=hx
 obtain⟨n3,u3,n4,u4,rfl,s3,s4⟩:=hy
 have o1:=dt s1
 have o2:=dt s2
 have o3:=dt s3
 have o4:=dt s4
 unfold V.one at o1 o2 o3 o4
 have kB:ab h N (((h.set N (.cells [.int .i64 n1,u1,.int .i64 n2,u2] 114 true)).set (N+1) (.cells [.int .i64 n3,u3,.int .i64 n4,u4] 114 true)).set (N+2) (.cells [.int .i64 0,.aa,.int .i64 0,.aa] 114 true)) (N+3):=aL (aL (aL ab.refl _) _) _
 simp[A.b90,aU,aJ,o1,o2,o3,o4]
 generalize iZ:((h.set N (.cells [.int .i64 n1,u1,.int .i64 n2,u2] 114 true)).set (N+1) (.cells [.int .i64 n3,u3,.int .i64 n4,u4] 114 true)).set (N+2) (.cells [.int .i64 0,.aa,.int .i64 0,.aa] 114 true)=hB at*
 have b1:hB.get N=some (.cells [.int .i64 n1,u1,.int .i64 n2,u2] 114 true):=by rw[<-iZ];simp
 have b2:hB.get (N+1)=some (.cells [.int .i64 n3,u3,.int .i64 n4,u4] 114 true):=by rw[<-iZ];simp
 have b3:hB.get (N+2)=some (.cells [.int .i64 0,.aa,.int .i64 0,.aa] 114 true):=by rw[<-iZ];simp
 refine ax (AI (s1.ae kB) (s3.ae kB) (by omega) (by omega)) ?_
 rintro v5 h1 m1 k1 q1
 have eR:=k1.le
 have f1:=(k1.get N (by omega)).trans b1
 have f2:=(k1.get (N+1) (by omega)).trans b2
 have f3:=(k1.get (N+2) (by omega)).trans b3
 have e1:N<m1:=by omega
 have e2:N+1<m1:=by omega
 simp[f1,f2,e1,e2,aU,aJ]
 refine ax (AI ((s2.ae kB).ae k1) ((s4.ae kB).ae k1) (by omega) (by omega)) ?_
 rintro v6 h2 m2 k2 q2
 have f_:=k2.le
 have f4:=(k2.get (N+2) (by omega)).trans f3
 simp[]
 have hd:((p.den:Nat):Int)*((q.den:Nat):Int)≠0:=by
  have:=p.den_nz
  have:=q.den_nz
  exact FY (by omega) (by omega)
 refine ax (UH (q1.ae k2) q2 hd ?_ ?_) ?_
 ·have:=Eu p.num q.num
  omega
 ·have:=Eu ((p.den:Nat):Int) ((q.den:Nat):Int)
  omega
 ·rintro v7 h3 m3 k3 hv
  rw[<-Rat.divInt_mul_divInt,Bp,Bp]at hv
  obtain⟨n5,u5,n6,u6,rfl,t1,t2⟩:=hv
  have o5:=dt t1
  have o6:=dt t2
  unfold V.one at o5 o6
  have iX:=k3.le
  have f5:=(k3.get (N+2) (by omega)).trans f4
  have e3:N+2<m3:=by omega
  simp[f5,e3,aU,aJ,ag,bW,o5,o6,dw.dB,aA]
  have kk:=((kB.trans k1).trans k2).trans k3
  exact⟨kk.set (by omega),n5,u5,n6,u6,rfl,t1.aE (i:=N+2) f5 mD rfl,t2.aE (i:=N+2) f5 mD rfl⟩
theorem UK{x:V}{q:Rat}{h:T O}{N:Nat}(hx:Fc h N x q):Fn A.C 171 [x] h N (fun v _ _=>v=.bool (decide (q.den=1))):=by
 intro w
 rw[aR,A.k171 (by simp)]
 obtain⟨n1,u1,n2,u2,rfl,s1,s2⟩:=hx
 have o1:=dt s1
 have o2:=dt s2
 unfold V.one at o1 o2
 rcases s2 with⟨e0,_,_⟩|⟨i,o,l,c,e0,_,hz⟩
 ·simp only[V.agg.injEq,gK,V.int.injEq,true_and,and_true]at e0
  obtain⟨rfl,rfl⟩:=e0
  by_cases c1:q.den=1
  ·have c2:((q.den:Nat):Int)=1:=by omega
   simp[A.b171,aU,o1,dJ,c1,aA]
   exact aL ab.refl _
  ·have c2:¬((q.den:Nat):Int)=1:=by omega
   simp[A.b171,aU,o1,dJ,c1,c2,aA]
   exact aL ab.refl _
 ·simp only[V.agg.injEq,gK,V.int.injEq,true_and,and_true]at e0
  obtain⟨rfl,rfl⟩:=e0
  have c1:¬q.den=1:=by omega
  simp[A.b171,aU,o1,dJ,c1,aA]
  exact aL ab.refl _
end Go.Mx
