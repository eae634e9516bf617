/-num-/
import Derived.Test.YtgnadghjglamaaaGreatDoorNcB
set_option linter.all false
set_option maxHeartbeats 4000000
namespace Go.Mx
noncomputable section
open Go Go.Proofs
variable {b nB:Nat} {gs:List aU} {r:T V} {sT:St} {v:V}
set_option maxRecDepth 1000000
def A.C0:=A.q Tryz.f215
def A.jZ:=A.ql A.C0 1 []
def A.j9:=A.ql A.C0 0 []
def A.rz:=(fun x0 x1=>A.qt A.C0 [x0,x1] [] [1,1,1,1,1,1,1,1]) A.j9 A.jZ
def A.b215:=(fun x0 x1 y0=>A.qt A.C0 [x0,x1] [([1,1,1,1,1,1,1,1],y0)] []) A.j9 A.jZ A.rz
def A.k215:=@A.kk 215 69 [.tmp 2] A.b215 (by kernel_rfl) rfl
def rA(n:Nat):List aU:=if h:n=0 then [] else (if n/1000000000000000000=0 then av n else iJ (n%1000000000000000000) 18)::rA (n/1000000000000000000)
termination_by n
decreasing_by omega
def Ua:rA 0=[]:=by unfold rA;simp
def Ub{n:Nat}(h:n≠0):rA n=(if n/1000000000000000000=0 then av n else iJ (n%1000000000000000000) 18)::rA (n/1000000000000000000):=by
 conv=>lhs;unfold rA
 rw[dif_neg h]
def Ykp:∀{n:Nat},n≠0->(rA n).reverse.flatten=av n:=by
 intro n
 induction n using Nat.strongRecOn with
 |_ n ih=>
  intro h
  rw[Ub h]
  by_cases h0:n/1000000000000000000=0
  ·rw[aQ h0,h0,Ua];simp
  ·rw[aA h0,List.reverse_cons,List.flatten_append,ih _ (by omega) h0,Ko h,Ko h0]
   have e:=Zoz (k:=18) (a:=n/1000000000000000000) (b:=n%1000000000000000000) h0 (kW _ (by decide))
   rw[show n/1000000000000000000*10^18+n%1000000000000000000=n by have:=tW n 1000000000000000000;omega]at e
   rw[e];simp
def Zrz{a:Nat}(h:a<=b):(dq a).length<=(dq b).length:=pn.1 (lG h (pn.2 (aZ _)))
def Ycg:∀{n:Nat},(rA n).length<=(dq n).length:=by
 intro n
 induction n using Nat.strongRecOn with
 |_ n ih=>
  by_cases h:n=0
  ·subst h;rw[Ua];simp
  ·rw[Ub h,ak,wZ h,jb]
   have h1:=ih (n/1000000000000000000) (by omega)
   have h2:=Zrz (a:=n/1000000000000000000) (b:=n/10) (by omega)
   simp;omega
def Yhu:∀{n:Nat} {s:aU},s∈rA n->s≠[]:=by
 intro n
 induction n using Nat.strongRecOn with
 |_ n ih=>
  intro s hs
  by_cases h:n=0
  ·subst h;rw[Ua]at hs;cases hs
  ·rw[Ub h]at hs
   rcases ku.1 hs with hs|hs
   ·subst hs
    split
    ·exact Mj n
    ·intro hc
     have:=Ygm (b:=n%1000000000000000000) (k:=18) (kW _ (by decide))
     rw[hc]at this;simp at this
   ·exact ih _ (by omega) hs
def vL(l:List aU):List (List V):=l.map fun s=>[.str s]
def Ylz{q:V}{Q n n':Nat}{h h':T O}{e:TypeId}(hq:Wn h n q Q)(hQ:Q≠0)(hv:Own 1 e nB h n v (vL gs))(hh:∀j,j<n->h'.get j=h.get j\/(∃o m c y,v=.slice j o m c y))(hn:n<=n'):Wn h' n' q Q:=by
 obtain⟨d,hd⟩:∃d,(aN Q)[0]?=some d:=by rw[mW hQ];exact⟨_,rfl⟩
 rcases hq with⟨hz,_⟩|⟨i,o,cp,c,ee,rw,rfl,q1,q2,q3,q4⟩
 ·rw[mW hQ]at hz;simp[dg]at hz
 ·refine .inr ⟨i,o,cp,c,ee,rw,rfl,h_ q1 hn,?_,q3,q4⟩
  rcases hh i q1 with h1|⟨o',m,c',y,rfl⟩
  ·rw[h1];exact q2
  ·exfalso
   rcases hv with⟨_,⟨_,h1⟩|⟨i',h1,_,_,h2⟩⟩
   ·cases h1
   ·simp only[V.slice.injEq]at h1
    obtain⟨rfl,_⟩:=h1
    rw[q2]at h2
    simp only[au,O.cells.injEq]at h2
    have h3:=q3 0 (by rw[Zab,mW hQ];simp)
    rw[fH hd,h2.1]at h3
    have:=eZ h3
    obtain⟨l,hl,hx⟩:=List.mem_flatten.1 this
    obtain⟨s,_,rfl⟩:=AG.1 hl
    simp at hx
structure Qv (hB:T O) (nB M:Nat) (m:Nat) (r:T V) (st:St):Prop where
 w:aD nB st.w=[]
 ah:ae hB nB st.h st.n
 ex:∃u v gs,r.get 4=some u/\r.get 6=some v/\r_ u=some (aN m).length/\(m≠0->Wn st.h st.n u m)/\Own 1 9 nB st.h st.n v (vL gs)/\gs++rA m=rA M
def Yep{hB:T O}{M m:Nat}{r0:T V}{t:V}(hP:mC hB nB)(hM:(dq M).length<100000000000)(hm:m<=M)(ht:Wn hB nB t 1000000000000000000)(a5:r.get 5=some t)(hf:Fx [(4,4),(6,9),(24,53)] r0 69 ⟨r,69,[]⟩)(s:Qv hB nB M m r sT):
  Code A.C none A.j9 ⟨r,69,[]⟩ sT (Rd [(4,4),(6,9),(24,53)] r0 69 (fun k r st=>k<=M/\Qv hB nB M k r st) m (fun e r st=>e=.exit 0/\Qv hB nB M 0 r st)):=by
 obtain⟨H,n1,W⟩:=sT
 obtain⟨hW,hK,u,v,gs,a4,a6,lu,hu,ho,hg⟩:=s
 simp only at hW hK hu ho
 rw[dk]
 by_cases h0:m=0
 ·subst h0
  rw[q_]at lu
  simp(disch:=first|(simp;done)|omega|(simp only[Zab,aq,ak];omega)|rfl) [-getElem?_pos,A.j9,hf,a4,lu]
  exact⟨hW,hK,u,v,gs,by simp[a4],by simp[a6],by rw[q_];exact lu,hu,ho,hg⟩
 ·replace hu:=hu h0
  have lp:0<(aN m).length:=by rw[mW h0];simp
  have lp':(0:Int)<((aN m).length:Int):=by omega
  have hwl:(aN m).length<1000000000000:=by
   have h1:=Iv (n:=m) (k:=(dq M).length) (pn.2 (Zrz hm))
   unfold wl at h1
   simp at h1
   omega
  have uz:(aN 1000000000000000000).length<1000000000000:=by rw[JZ (by decide) (by decide)];decide
  have w_:gs.length+(rA m).length<=(dq M).length:=by
   rw[<-jb,hg];exact Ycg
  have EE:=Ub h0
  rw[EE,ak]at w_
  simp(disch:=first|(simp;done)|omega|(simp only[Zab,aq,ak];omega)|rfl) [-getElem?_pos,A.j9,hf,a4,a5,lu,lp,lp']
  refine az (Zrv hu (ht.ah hK) (by decide) hwl uz) ?_
  rintro _ h2 n2 k2 ⟨q,Sk,rfl,hq,OS⟩
  have lq:=hq.len
  have lr:=OS.len
  rw[Zab]at lq lr
  have JP:m%1000000000000000000<18446744073709551616:=by omega
  obtain⟨R,hR⟩:∃R,m%1000000000000000000=R:=⟨_,rfl⟩
  obtain⟨Q,hQ⟩:∃Q,m/1000000000000000000=Q:=⟨_,rfl⟩
  rw[hR]at lr OS EE
  rw[hQ]at lq hq EE w_
  have kk:=hK.trans k2
  have ye:=hP.ah kk
  have app:∀(h3:T O) (n3:Nat) (W3:List Nat) (g:aU),ae h2 n2 h3 n3->aD nB W3=[]->g=(if Q=0 then av m else iJ R 18)->
    ∃v' h' w',l8 ⟨h3.set n3 (.cells [.str g] 9 true),n3+1,W3⟩ 1 16 9 v (.slice n3 0 1 (some 1) 1)=some (v',⟨h',n3+1+1,w'⟩)/\aD nB w'=[]/\ae hB nB h' (n3+1+1)/\(Q≠0->Wn h' (n3+1+1) q Q)/\Own 1 9 nB h' (n3+1+1) v' (vL (gs++[g]))/\(gs++[g])++rA Q=rA M:=by
   intro h3 n3 W3 g k3 J1 oV
   have kk3:=kk.trans k3
   have iT:=kk3.le
   have Ev:=(ho.ah (k2.trans k3)).ah (aI ae.refl (.cells [.str g] 9 true))
   obtain⟨v',h',w',e1,e2,e3,e4,e5⟩:=xh (x:=[.str g]) (u:=.slice n3 0 1 (some 1) 1) (bytes:=16) (w:=W3) Ev (by omega) (by decide) rfl (by simp[gp,St.row,aE]) (by simp[vL];omega)
   refine⟨v',h',w',e1,by rw[e2];exact J1,(kk3.trans (aI ae.refl _)).then e3,fun C1=>?_,by simpa[vL]using e5,by rw[oV,<-hg,EE,sQ];rfl⟩
   have hq3:=(hq.ah k3).ah (aI ae.refl (.cells [.str g] 9 true))
   refine Ylz hq3 C1 Ev (fun j hj=>?_) (Ar _)
   rcases e4 j with h1|h1|h1
   ·exact .inl h1
   ·omega
   ·exact .inr h1
  have f18:((18:Int)-1)=((17:Nat):Int):=rfl
  by_cases J6:R=0
  ·have C1:Q≠0:=by omega
   have ME:0<(aN Q).length:=by rw[mW C1];simp
   have xP:(0:Int)<((aN Q).length:Int):=by omega
   have oV:[48,48,48,48,48,48,48,48,48,48,48,48,48,48,48,48,48,48]=(if Q=0 then av m else iJ R 18):=by rw[aA C1,J6];unfold iJ;rw[tu];rfl
   rw[J6,q_]at lr
   simp(disch:=first|(simp;done)|omega|(simp only[Zab,aq,ak];omega)|rfl) [-getElem?_pos,hf,a4,a5,a6,lq,lr,ME,xP]
   refine az (Zqs (k:=17) (by decide)) ?_
   rintro _ h3 n3 k3 rfl
   obtain⟨v',h',w',e1,e2,e3,e4,e5,e6⟩:=app h3 n3 W _ k3 hW oV
   simp(disch:=first|(simp;done)|omega|(simp only[Zab,aq,ak];omega)|rfl) [-getElem?_pos,hf,a4,a5,a6,lq,lr,ME,xP,iX,ag,e1]
   exact⟨Q,by omega,by omega,⟨e2,e3,q,v',_,by simp,by simp,lq,e4,e5,e6⟩⟩
  ·have hRw:aN R=[R]:=JZ (by unfold B;omega) J6
   obtain⟨i,o,c,e,wr,p1,p2,p3,p4⟩:=OS.at (fH (l:=aN R) (j:=0) (n:=R) (by rw[hRw];rfl))
   rw[hRw]at lr
   have lr:r_ Sk=some 1:=lr
   have hRd:=Ko J6
   rw[tF]at p4
   by_cases C1:Q=0
   ·have oV:av R=(if Q=0 then av m else iJ R 18):=by rw[aQ C1];congr 1;omega
    have lqz:(aN Q).length=0:=by rw[C1,q_];rfl
    rw[lqz]at lq
    simp(disch:=first|(simp;done)|omega|(simp only[Zab,aq,ak];omega)|rfl) [-getElem?_pos,hf,a4,a5,a6,lq,lr,p1,p3,p4]
    refine az (Yhw (x:=R) (by omega) ye) ?_
    rintro _ h3 n3 k3 rfl
    obtain⟨v',h',w',e1,e2,e3,e4,e5,e6⟩:=app h3 n3 W _ k3 hW oV
    simp(disch:=first|(simp;done)|omega|(simp only[Zab,aq,ak];omega)|rfl) [-getElem?_pos,hf,a4,a5,a6,lq,lr,iX,ag,e1]
    exact⟨Q,by omega,by omega,⟨e2,e3,q,v',_,by simp,by simp,by rw[lqz];exact lq,e4,e5,e6⟩⟩
   ·have ME:0<(aN Q).length:=by rw[mW C1];simp
    have xP:(0:Int)<((aN Q).length:Int):=by omega
    have zfe:(dq R).length<=18:=pn.1 (by omega)
    have oV:List.replicate (18-(av R).length) 48++av R=(if Q=0 then av m else iJ R 18):=by rw[aA C1,hRd];rfl
    have hs:(18:Int)-((av R).length:Int)=((18-(av R).length:Nat):Int):=by rw[hRd];omega
    have yb:¬(9223372036854775807:Int)<(((List.replicate (18-(av R).length) (48:UInt8)).length+(av R).length:Nat):Int):=by rw[List.length_replicate,hRd];omega
    simp(disch:=first|(simp;done)|omega|(simp only[Zab,aq,ak];omega)|rfl) [-getElem?_pos,hf,a4,a5,a6,lq,lr,ME,xP,p1,p3,p4]
    refine az (Yhw (x:=R) (by omega) ye) ?_
    rintro _ h3 n3 k3 rfl
    generalize av R=S at*
    simp(disch:=first|(simp;done)|omega|(simp only[Zab,aq,ak];omega)|rfl) [-getElem?_pos,hf,a4,a5,a6,lq,lr,ME,xP,hs]
    refine az (Zqs (k:=18-S.length) (by omega)) ?_
    rintro _ h4 n4 k4 rfl
    obtain⟨v',h',w',e1,e2,e3,e4,e5,e6⟩:=app h4 n4 W _ (k3.trans k4) hW oV
    generalize List.replicate (18-S.length) (48:UInt8)=Z at*
    have dP:IntKind.max .i64=9223372036854775807:=rfl
    have zej:¬(9223372036854775807:Int)<(Z.length:Int)+(S.length:Int):=by omega
    simp(disch:=first|(simp;done)|omega|(simp only[Zab,aq,ak];omega)|rfl) [-getElem?_pos,hf,a4,a5,a6,lq,lr,ME,xP,iX,dP,yb,zej,ag,e1]
    exact⟨Q,by omega,by omega,⟨e2,e3,q,v',_,by simp,by simp,lq,e4,e5,e6⟩⟩
structure Qw (hb:T O) (n0 b:Nat) (gs:List aU) (pre:aU) (k:Nat) (r:T V) (st:St):Prop where
 hk:k<=gs.length
 pE:r.get 11=some (.int .i64 ((k:Int)-1))
 w:aD n0 st.w=[]
 Qs:∀i,i<b->st.h.get i=hb.get i
 bd:Bd st.h st.n b (pre++(gs.drop k).reverse.flatten)
def Ygh(gs:List aU)(k:Nat):gs.reverse.flatten=(gs.drop k).reverse.flatten++(gs.take k).reverse.flatten:=by
 conv=>lhs;rw[<-A6 k gs]
 rw[List.reverse_append,List.flatten_append]
def Yem{j:Nat}{s:aU}(h:gs[j]?=some s):(vL gs).flatten[j]?=some (.str s):=by
 have:∀gs:List aU,(vL gs).flatten=gs.map V.str:=by
  intro gs
  induction gs with
  |nil=>rfl
  |cons a gs ih=>show V.str a::(vL gs).flatten=_;rw[ih];rfl
 rw[this,mL,h];rfl
def Yeo{hb:T O}{nB n0 b k:Nat}{gs:List aU}{pre:aU}{v:V}{r r0:T V}{sT:St}(wL:n0<=b)(hl:pre.length+gs.reverse.flatten.length<1000000000000)(w_:gs.length<1000000000000)(bF:∀s∈gs,s≠[])(ho:Own 1 9 nB hb b v (vL gs))(a6:r.get 6=some v)(JQ:r.get 10=some (.ptr b 0))(hf:Fx [(11,11),(59,67)] r0 69 ⟨r,69,[]⟩)(s:Qw hb n0 b gs pre k r sT):
  Code A.C none A.jZ ⟨r,69,[]⟩ sT (Rd [(11,11),(59,67)] r0 69 (Qw hb n0 b gs pre) k (fun e r st=>e=.exit 2/\Qw hb n0 b gs pre 0 r st)):=by
 obtain⟨H,n1,W⟩:=sT
 obtain⟨hk,Bx,hW,hO,MF⟩:=s
 simp only at hW hO MF
 rw[dk]
 cases k with
 |zero=>
  have c1:¬(0:Int)<=((0:Nat):Int)-1:=by omega
  have Qx:r.get 11=some (.int .i64 (-1)):=Bx
  simp(disch:=first|(simp;done)|omega|(simp only[Zab,aq,ak];omega)|rfl) [-getElem?_pos,A.jZ,hf,Qx]
  exact⟨hk,by simp[Qx],hW,hO,MF⟩
 |succ j=>
  have e1:((j+1:Nat):Int)-1=(j:Int):=by omega
  rw[e1]at Bx
  obtain⟨g,hg⟩:∃g,gs[j]?=some g:=⟨_,eA (by omega)⟩
  have CD:=Yem hg
  have lv:=ho.len
  have lg:(vL gs).length=gs.length:=by simp[vL]
  rw[lg]at lv
  have AP:(j:Int)<(gs.length:Int):=by omega
  rcases ho with⟨_,⟨h1,_⟩|⟨i,rfl,h2,h3,h4⟩⟩
  ·exfalso
   have:gs=[]:=by simpa[vL]using h1
   subst this;simp at hk
  ·have aM:=(hO i h3).trans h4
   have Kq:(gs.drop j).reverse.flatten=(gs.drop (j+1)).reverse.flatten++g:=by
    have:gs.drop j=g::gs.drop (j+1):=by
     rw[IT (by omega)]
     congr 1
     rw[eA (by omega)]at hg
     simpa using hg
    rw[this,List.reverse_cons,List.flatten_append];simp
   have zek:=congrArg List.length (Ygh gs j)
   rw[Kq,jb,jb]at zek
   simp(disch:=first|(simp;done)|omega|(simp only[Zab,aq,ak];omega)|rfl) [-getElem?_pos,A.jZ,hf,a6,JQ,Bx,lv,aM,CD,AP,lg]
   refine Bi (Zzj wL MF (bF g (eZ hg)) (by rw[jb];omega)) ?_
   rintro _ ⟨H2,n2,W2⟩ ⟨hn,f_,wI,hb2⟩
   simp only at hn f_ wI hb2
   subst hn
   simp(disch:=first|(simp;done)|omega|(simp only[Zab,aq,ak];omega)|rfl) [-getElem?_pos,hf,Bx]
   refine⟨j,by omega,by omega,by simp,by rw[f_,hW],fun i hi=>(wI i hi).trans (hO i hi),?_⟩
   rw[Kq,<-sQ];exact hb2
def Zzw{hb:T O}{n0:Nat}{pre:aU}(wL:n0<=b)(hl:pre.length+gs.reverse.flatten.length<1000000000000)(w_:gs.length<1000000000000)(bF:∀s∈gs,s≠[])(Uc:pre++gs.reverse.flatten≠[])(ho:Own 1 9 nB hb b v (vL gs))(a6:r.get 6=some v)(JQ:r.get 10=some (.ptr b 0))
  (hW:aD n0 sT.w=[]) (hO:∀i,i<b->sT.h.get i=hb.get i) (MF:Bd sT.h sT.n b pre):
  Code A.C none A.rz ⟨r,69,[]⟩ sT (fun e fr st=>e=.ret/\∃r',fr=⟨r',69,[]⟩/\r'.get 2=some (.str (pre++gs.reverse.flatten))/\aD n0 st.w=[]/\(∀i,i<b->st.h.get i=hb.get i)/\b<=st.n):=by
 obtain⟨H,n1,W⟩:=sT
 simp only at hW hO MF
 rw[dk]
 have lv:=ho.len
 rw[show (vL gs).length=gs.length by simp[vL]]at lv
 simp(disch:=first|(simp;done)|omega|(simp only[Zab,aq,ak];omega)|rfl) [-getElem?_pos,A.rz,a6,lv]
 refine c_ [(11,11),(59,67)] (fun e r st=>e=.exit 2/\Qw hb n0 b gs pre 0 r st) (Qw hb n0 b gs pre) gs.length ?_ ?_ ?_
 ·exact⟨aZ _,by simp,hW,hO,by simpa using MF⟩
 ·intro k r' aB hr hf J
  exact Yeo wL hl w_ bF ho (by rw[hr 6 (by decide)];simp[a6]) (by rw[hr 10 (by decide)];simp[JQ]) hf J
 ·rintro e r' ⟨H2,n2,W2⟩ hr ⟨rfl,hk,_,f_,wI,hb2⟩
  simp only at f_ wI hb2
  rw[AA]at hb2
  have hb3:=hb2.1
  have zel:r'.get 10=some (.ptr b 0):=by rw[hr 10 (by decide)];simp[JQ]
  simp(disch:=first|(simp;done)|omega|(simp only[Zab,aq,ak];omega)|rfl) [-getElem?_pos,zel]
  refine Bi (Ylc wL hb2 Uc (by rw[jb];omega)) ?_
  rintro _ ⟨H3,n3,W3⟩ ⟨rfl,hn,J1,P1⟩
  simp only at hn J1 P1
  subst hn
  simp(disch:=first|(simp;done)|omega|(simp only[Zab,aq,ak];omega)|rfl) [-getElem?_pos,]
  exact⟨by rw[J1,f_],fun i hi=>(P1 i hi).trans (wI i hi),by omega⟩
def Ud{x:V}{z:Int}{h:T O}{N:Nat}(hx:In h N x z)(hP:mC h N)(hl:(dq z.natAbs).length<100000000000):Fn A.C 215 [x] h N (fun v h' N'=>v=.str (aR z)):=by
 intro w
 rw[aV,A.k215 (by simp)]
 rcases id hx with⟨rfl,h1,h2⟩|⟨i0,o0,l0,c0,rfl,hw0,pd⟩
 ·simp(disch:=first|(simp;done)|omega|(simp only[Zab,aq,ak];omega)|rfl) [-getElem?_pos,A.b215,aJ,aE,ag,aL]
  refine az (Yki h1 h2 (hP.ah (aI ae.refl _))) ?_
  rintro _ h3 n3 k3 rfl
  simp(disch:=first|(simp;done)|omega|(simp only[Zab,aq,ak];omega)|rfl) [-getElem?_pos,aF]
  exact(aI ae.refl _).trans k3
 ·simp(disch:=first|(simp;done)|omega|(simp only[Zab,aq,ak];omega)|rfl) [-getElem?_pos,A.b215,aJ,aE,ag,aL]
  refine az (CS (hx.ah (aI ae.refl (.cells [.int .i64 (xO z),.slice i0 o0 l0 c0 1] 108 true)))) ?_
  rintro _ h1 n1 k1 ⟨u,rfl,hu⟩
  obtain⟨M,hM⟩:∃M,z.natAbs=M:=⟨_,rfl⟩
  rw[hM]at hu hl
  have hM0:M≠0:=by omega
  have lu:=hu.len
  rw[Zab]at lu
  have kN:=(aI (ae.refl (h:=h) (n:=N)) (.cells [.int .i64 (xO z),.slice i0 o0 l0 c0 1] 108 true)).trans k1
  have kT:=aI (ae.refl (h:=h1) (n:=n1)) (.cells [.int .u64 1000000000000000000] 217 true)
  have hT:Wn (h1.set n1 (.cells [.int .u64 1000000000000000000] 217 true)) (n1+1) (.slice n1 0 1 (some 1) 1) 1000000000000000000:=by
   unfold Wn
   rw[JZ (by decide) (by decide)]
   exact Sl.row (e:=217) (rw:=true) (L:=1) (by omega) (by simp[dg]) (by simp) (by simp)
  simp(disch:=first|(simp;done)|omega|(simp only[Zab,aq,ak];omega)|rfl) [-getElem?_pos,aJ,aE,ag]
  generalize gT:h1.set n1 (.cells [.int .u64 1000000000000000000] 217 true)=hB at*
  have RZ:=(hP.ah kN).ah kT
  refine c_ [(4,4),(6,9),(24,53)] (fun e r st=>e=.exit 0/\Qv hB (n1+1) M 0 r st) (fun k r st=>k<=M/\Qv hB (n1+1) M k r st) M ?_ ?_ ?_
  ·exact⟨aZ _,by simp[aD],ae.refl,u,.aa,[],by simp,by simp,lu,fun _=>hu.ah kT,Own.nil,rfl⟩
  ·rintro m r st hr hf ⟨hm,J⟩
   exact Yep RZ hl hm hT (by rw[hr 5 (by decide)];simp) hf J
  ·rintro e r ⟨H,n2,W⟩ hr ⟨rfl,hW,hK,u2,v,gs,a4,a6,_,_,ho,hg⟩
   rw[Ua,AD]at hg
   subst hg
   simp only at hW hK ho
   have iT:=hK.le
   have vT:=kN.le
   have a3:r.get 3=some (.bool (decide (z<0))):=by rw[hr 3 (by decide)];simp
   have lP:=Ykp hM0
   have w_:(rA M).length<1000000000000:=lG Ycg (by omega)
   have lK:(av M).length<100000000000:=by rw[Ko hM0];exact hl
   have yn:Bd (H.set n2 (.cells [.zgi,.aa] 251 true)) (n2+1) n2 []:=⟨tO _,.zgi,.aa,by rw[T.aj,aQ rfl],.inl rfl,.inl ⟨rfl,rfl⟩⟩
   by_cases hz:z<0
   ·have BB:aR z=[45]++(rA M).reverse.flatten:=by unfold aR;rw[aQ hz,hM,lP];rfl
    simp(disch:=first|(simp;done)|omega|(simp only[Zab,aq,ak];omega)|rfl) [-getElem?_pos,a3,hz]
    refine Bi (Zzj (n0:=n1+1) iT yn (t:=[45]) (by decide) (by decide)) ?_
    rintro _ ⟨H2,n3,W2⟩ ⟨hn,f_,wI,hb2⟩
    simp only at hn f_ wI hb2
    subst hn
    simp(disch:=first|(simp;done)|omega|(simp only[Zab,aq,ak];omega)|rfl) [-getElem?_pos,]
    refine mJ (Zzw (nB:=n1+1) (n0:=n1+1) (b:=n2) (hb:=H) (gs:=rA M) (pre:=[45]) (v:=v) iT (by rw[lP];simp;omega) w_ (fun s hs=>Yhu hs) (by simp) ho (by simp[a6]) (by simp) (by rw[f_,hW]) (fun i hi=>by rw[wI i hi,T.aj,aA (by omega)]) hb2) ?_
    rintro e fr ⟨H6,n6,W6⟩ ⟨rfl,r6,rfl,g2,g3,g4,g5⟩
    simp only at g3 g4 g5
    have hW6:=Mw (show N<=n1+1 by omega) g3
    simp(disch:=first|(simp;done)|omega|(simp only[Zab,aq,ak];omega)|rfl) [-getElem?_pos,g2,aF,hW6,BB]
    exact⟨by omega,fun i hi=>by rw[g4 i (by omega),hK.get i (by omega),<-gT,T.aj,aA (by omega),kN.get i hi]⟩
   ·have BB:aR z=[]++(rA M).reverse.flatten:=by unfold aR;rw[aA hz,hM,lP];rfl
    simp(disch:=first|(simp;done)|omega|(simp only[Zab,aq,ak];omega)|rfl) [-getElem?_pos,a3,hz]
    refine mJ (Zzw (nB:=n1+1) (n0:=n1+1) (b:=n2) (hb:=H) (gs:=rA M) (pre:=[]) (v:=v) iT (by rw[lP];simp;omega) w_ (fun s hs=>Yhu hs) (by rw[List.nil_append,lP];exact Mj M) ho (by simp[a6]) (by simp) hW (fun i hi=>by rw[T.aj,aA (by omega)]) yn) ?_
    rintro e fr ⟨H6,n6,W6⟩ ⟨rfl,r6,rfl,g2,g3,g4,g5⟩
    simp only at g3 g4 g5
    have hW6:=Mw (show N<=n1+1 by omega) g3
    simp(disch:=first|(simp;done)|omega|(simp only[Zab,aq,ak];omega)|rfl) [-getElem?_pos,g2,aF,hW6,BB]
    exact⟨by omega,fun i hi=>by rw[g4 i (by omega),hK.get i (by omega),<-gT,T.aj,aA (by omega),kN.get i hi]⟩
variable {N:Nat} {a b z:Int} {h:T O} {x:V}
def A.b127:=A.q Tryz.f127
def A.k127:=@A.kk 127 6 [.cell 2 (some 4)] A.b127 (by kernel_rfl) rfl
def A.b75:=A.q Tryz.f75
def A.k75:=@A.kk 75 6 [.cell 2 (some 4)] A.b75 (by kernel_rfl) rfl
def A.b182:=A.q Tryz.f182
def A.k182:=@A.kk 182 13 [.tmp 2] A.b182 (by kernel_rfl) rfl
def A.Kr:=A.q Tryz.f144
def A.nj:=A.qt A.Kr [] [] [1,1,1]
def A.iM:=(fun y0=>A.qt A.Kr [] [([1,1,1],y0)] [1,1]) A.nj
def A.b144:=(fun y0=>A.qt A.Kr [] [([1,1],y0)] []) A.iM
def A.k144:=@A.kk 144 34 [.cell 4 (some 4)] A.b144 (by kernel_rfl) rfl
def Fc(h:T O)(N:Nat)(x:V)(q:Rat):Prop:=∃n1 u1 n2 u2,x=.agg [.int .i64 n1,u1,.int .i64 n2,u2]/\In h N (.agg [.int .i64 n1,u1]) q.num/\In h N (.agg [.int .i64 n2,u2]) (q.den:Nat)
def Fc.ah{h':T O}{N':Nat}{q:Rat}(s:Fc h N x q)(k:ae h N h' N'):Fc h' N' x q:=by
 obtain⟨n1,u1,n2,u2,rfl,s1,s2⟩:=s
 exact⟨n1,u1,n2,u2,rfl,s1.ah k,s2.ah k⟩
def de{n:Int}{u:V}(s:In h N (.agg [.int .i64 n,u]) z):V.one u=true:=by
 obtain⟨n',u',e,h1⟩:=s.cells
 simp at e
 rw[e.2];exact h1
def Zo9(hx:In h N x z):Fn A.C 127 [x] h N (fun v h' N'=>Fc h' N' v (z:Rat)):=by
 intro w
 rw[aV,A.k127 (by simp)]
 obtain⟨n,u,rfl,hu⟩:=hx.cells
 have og:=hu
 unfold V.one at og
 simp(disch:=first|(simp;done)|omega|(simp only[Zab,aq,ak];omega)|rfl) [-getElem?_pos,A.b127,aJ,aE,ag,og]
 refine az JX ?_
 rintro _ h1 n1 k1 rfl
 have vT:=k1.le
 have g0:=k1.get (N+1) (by omega)
 simp at g0
 simp(disch:=first|(simp;done)|omega|(simp only[Zab,aq,ak];omega)|rfl) [-getElem?_pos,aJ,aE,ag,bE,g0,og,bU.bZ,aF]
 have kk:=(((aI (aI ae.refl (.cells [.int .i64 n,u] 108 true)) (.cells [.int .i64 0,.aa,.int .i64 0,.aa] 110 true)).trans k1).set (h:=h) (n:=N) (i:=N+1) (o:=.cells [.int .i64 n,u,.int .i64 1,.aa] 110 true) (by omega))
 refine⟨?_,kk,n,u,1,.aa,rfl,?_,?_⟩
 ·split<;>simp[aD]
 ·exact hx.ah kk
 ·exact In.small (by decide) (by decide)
def xj(h1: -9223372036854775808<=z)(h2:z<9223372036854775808){h:T O}{N:Nat}:Fn A.C 75 [.int .i64 z] h N (fun v h' N'=>Fc h' N' v (z:Rat)):=by
 intro w
 rw[aV,A.k75 (by simp)]
 simp(disch:=first|(simp;done)|omega|(simp only[Zab,aq,ak];omega)|rfl) [-getElem?_pos,A.b75]
 refine az JX ?_
 rintro _ h3 n3 k3 rfl
 simp(disch:=first|(simp;done)|omega|(simp only[Zab,aq,ak];omega)|rfl) [-getElem?_pos,]
 refine az (Zo9 (In.small h1 h2)) ?_
 rintro _ h4 n4 k4 ⟨n1,u1,n2,u2,rfl,s1,s2⟩
 have vT:=k3.le
 have tr:=k4.le
 have g0:=(k4.get N (by omega)).trans (k3.get N (by omega))
 simp at g0
 have o1:=de s1
 have o2:=de s2
 unfold V.one at o1 o2
 simp(disch:=first|(simp;done)|omega|(simp only[Zab,aq,ak];omega)|rfl) [-getElem?_pos,aJ,aE,ag,bE,g0,o1,o2,bU.bZ,aF]
 have kk:=(((aI (ae.refl (h:=h) (n:=N)) (.cells [.int .i64 0,.aa,.int .i64 0,.aa] 110 true)).trans k3).trans k4).set (h:=h) (n:=N) (i:=N) (o:=.cells [.int .i64 n1,u1,.int .i64 n2,u2] 110 true) (by omega)
 have g1:=(k4.get N (by omega)).trans (k3.get N (by omega))
 rw[T.aj,aQ rfl]at g1
 have hn:∀x∈[V.int .i64 0,V.aa,V.int .i64 0,V.aa],∀m,x≠.int .u64 m:=by
  intro x hx m hc
  simp at hx
  rcases hx with rfl|rfl|rfl|rfl<;>cases hc
 exact⟨kk,n1,u1,n2,u2,rfl,s1.aG g1 hn rfl,s2.aG g1 hn rfl⟩
def lZ:∀x∈[V.int .i64 0,V.aa,V.int .i64 0,V.aa],∀m,x≠.int .u64 m:=by
 intro x hx m hc
 simp at hx
 rcases hx with rfl|rfl|rfl|rfl<;>cases hc
structure Ue (H:T O) (N:Nat) (q:Rat) (st:St):Prop where
 w:aD N st.w=[]
 old:∀i,i<N->st.h.get i=H.get i
 le:N+3<=st.n
 ex:∃n1 u1 n2 u2,st.h.get (N+2)=some (.cells [.int .i64 n1,u1,.int .i64 n2,u2] 110 true)/\Fc st.h st.n (.agg [.int .i64 n1,u1,.int .i64 n2,u2]) q
def Yrc{H:T O}{n:Nat}{W:List Nat}{r:T V}{n1 n2:Int}{u1 u2:V}(hn:N+3<=n)(hW:aD N W=[])(g1:H.get N=some (.cells [.int .i64 n1,u1] 108 true))(g2:H.get (N+1)=some (.cells [.int .i64 n2,u2] 108 true))(g3:H.get (N+2)=some (.cells [.int .i64 0,.aa,.int .i64 0,.aa] 110 true))
  (hx:In H n (.agg [.int .i64 n1,u1]) a) (hy:In H n (.agg [.int .i64 n2,u2]) b) (hb:0<b) (la:wl a<10000000000) (lb:wl b<10000000000) (a2:r.get 2=some (.ptr N 0)) (a3:r.get 3=some (.ptr (N+1) 0)) (a4:r.get 4=some (.ptr (N+2) 0)):
  Code A.C none A.nj ⟨r,34,[]⟩ ⟨H,n,W⟩ (fun e fr st=>e=.ret/\∃r',fr=⟨r',34,[]⟩/\r'.get 4=some (.ptr (N+2) 0)/\Ue H N (Rat.divInt a b) st):=by
 rw[dk]
 have o1:=de hx
 have o2:=de hy
 unfold V.one at o1 o2
 simp(disch:=first|(simp;done)|omega|(simp only[Zab,aq,ak];omega)|rfl) [-getElem?_pos,A.nj,a2,a3,a4,g1,g2,aJ,aE,ag]
 refine az (Yhv hx hy la lb) ?_
 rintro _ h1 m1 k1 hg
 obtain⟨ng,ug,rfl,hug⟩:=hg.cells
 have Ks:=hug
 unfold V.one at Ks
 have vT:=k1.le
 have g1':=(k1.get N (by omega)).trans g1
 have Qy:=(k1.get (N+1) (by omega)).trans g2
 have g3':=(k1.get (N+2) (by omega)).trans g3
 have d1:¬N=m1:=by omega
 have d2:¬N+1=m1:=by omega
 have d3:¬N+2=m1:=by omega
 have e1:N<m1+1:=by omega
 have e2:N+1<m1+1:=by omega
 have e3:N+2<m1+1:=by omega
 have EE:0<Int.gcd a b:=Int.gcd_pos_of_ne_zero_right a (by omega)
 obtain⟨G,hG⟩:∃G,Int.gcd a b=G:=⟨_,rfl⟩
 rw[hG]at EE hg
 have hGb:(G:Int)<=b:=by
  rw[<-hG]
  exact Int.le_of_dvd hb (Int.gcd_dvd_right ..)
 have lg:wl (G:Int)<10000000000:=lG (J8 (by omega)) lb
 have kS:ae h1 m1 ((h1.set m1 (.cells [.int .i64 0,.aa] 108 true)).set m1 (.cells [.int .i64 ng,ug] 108 true)) (m1+1):=(aI ae.refl _).set (aZ _)
 simp(disch:=first|(simp;done)|omega|(simp only[Zab,aq,ak];omega)|rfl) [-getElem?_pos,a2,a3,a4,g1',Qy,d1,d2,d3,aJ,aE,ag,bE,Ks,o1,o2,e1,e2]
 refine az (Yhj ((hx.ah k1).ah kS) (hg.ah kS) (by omega) la lg) ?_
 rintro _ h2 m2 k2 sh
 obtain⟨n3,u3,rfl,Du⟩:=sh.cells
 have o3:=Du
 unfold V.one at o3
 have kT:=(k1.trans kS).trans k2
 have gJ:=kT.le
 have f1:=(kT.get N (by omega)).trans g1
 have f2:=(kT.get (N+1) (by omega)).trans g2
 have f3:=(kT.get (N+2) (by omega)).trans g3
 have f5:=k2.get m1 (by omega)
 rw[T.aj,aQ rfl]at f5
 have oI:=k2.le
 have e4:N+1<m2:=by omega
 have e5:m1<m2:=by omega
 have e6:N+2<m2:=by omega
 simp(disch:=first|(simp;done)|omega|(simp only[Zab,aq,ak];omega)|rfl) [-getElem?_pos,a2,a3,a4,f1,f2,f5,aJ,aE,ag,bE,Ks,o1,o2,o3,e4,e5]
 refine az (Yhj ((hy.ah kT)) ((hg.ah kS).ah k2) (by omega) lb lg) ?_
 rintro _ h3 m3 k3 lI
 obtain⟨n4,u4,rfl,Qt⟩:=lI.cells
 have o4:=Qt
 unfold V.one at o4
 have kU:=kT.trans k3
 have tr:=kU.le
 have f6:=(kU.get (N+2) (by omega)).trans g3
 have e7:N+2<m3:=by omega
 simp(disch:=first|(simp;done)|omega|(simp only[Zab,aq,ak];omega)|rfl) [-getElem?_pos,a4,f6,aJ,aE,ag,bE,o3,o4,e7,bU.bZ]
 have zem:(Rat.divInt a b).num=a/(G:Int):=by
  rw[Rat.num_divInt,Int.sign_eq_one_of_pos hb,Int.one_mul,Int.gcd_comm,hG]
 have zen:((Rat.divInt a b).den:Int)=b/(G:Int):=by
  rw[Rat.den_divInt,aA (by omega),Int.gcd_comm,hG,Int.natCast_ediv,Int.natAbs_of_nonneg (by omega)]
 have wY:¬N+2<N:=by omega
 have sM:¬m1<N:=by omega
 refine⟨by simp[aD,hW,wY,sM],fun i hi=>?_,by show N+3<=m3;omega,n3,u3,n4,u4,by show T.get (T.set _ _ _) _=_;rw[T.aj,aQ rfl],n3,u3,n4,u4,rfl,?_,?_⟩
 ·show T.get (T.set _ _ _) _=_
  rw[T.aj,aA (by omega),kU.get i (by omega)]
 ·rw[zem];exact(sh.ah k3).aG f6 lZ rfl
 ·rw[zen];exact lI.aG f6 lZ rfl
def Yrb{H:T O}{n:Nat}{W:List Nat}{r:T V}{n1 n2:Int}{u1 u2:V}(hn:N+3<=n)(hW:aD N W=[])(g1:H.get N=some (.cells [.int .i64 n1,u1] 108 true))(g2:H.get (N+1)=some (.cells [.int .i64 n2,u2] 108 true))(g3:H.get (N+2)=some (.cells [.int .i64 0,.aa,.int .i64 0,.aa] 110 true))
  (hx:In H n (.agg [.int .i64 n1,u1]) a) (hy:In H n (.agg [.int .i64 n2,u2]) b) (hb:0<b) (la:wl a<10000000000) (lb:wl b<10000000000) (a2:r.get 2=some (.ptr N 0)) (a3:r.get 3=some (.ptr (N+1) 0)) (a4:r.get 4=some (.ptr (N+2) 0)):
  Code A.C none A.iM ⟨r,34,[]⟩ ⟨H,n,W⟩ (fun e fr st=>e=.ret/\∃r',fr=⟨r',34,[]⟩/\r'.get 4=some (.ptr (N+2) 0)/\Ue H N (Rat.divInt a b) st):=by
 rw[dk]
 have o1:=de hx
 have o2:=de hy
 unfold V.one at o1 o2
 have fin:∀r':T V,r'.get 2=some (.ptr N 0)->r'.get 3=some (.ptr (N+1) 0)->r'.get 4=some (.ptr (N+2) 0)->bH A.C [] (fx (A.C.code none A.nj ⟨r',34,[]⟩ ⟨H,n,W⟩)) (exQ (fun e fr st=>e=.ret/\∃r',fr=⟨r',34,[]⟩/\r'.get 4=some (.ptr (N+2) 0)/\Ue H N (Rat.divInt a b) st)):=fun r' b2 b3 b4=>dk.1 (Yrc hn hW g1 g2 g3 hx hy hb la lb b2 b3 b4)
 have wU:=hy
 rcases wU with⟨e0,_,_⟩|⟨i,o,l,c,e0,_,_⟩
 ·simp only[V.agg.injEq,gC,V.int.injEq,true_and,and_true]at e0
  obtain⟨rfl,rfl⟩:=e0
  by_cases c1:n2=1
  ·subst c1
   simp(disch:=first|(simp;done)|omega|(simp only[Zab,aq,ak];omega)|rfl) [-getElem?_pos,A.iM,a2,a3,a4,g1,g2,g3,aJ,aE,ag,aL,bE,o1]
   have wY:¬N+2<N:=by omega
   refine⟨by simp[aD,hW,wY],fun i hi=>?_,hn,n1,u1,1,.aa,by show T.get (T.set _ _ _) _=_;rw[T.aj,aQ rfl],n1,u1,1,.aa,rfl,?_,?_⟩
   ·show T.get (T.set _ _ _) _=_
    rw[T.aj,aA (by omega)]
   ·rw[show (Rat.divInt a 1).num=a by rw[Rat.num_divInt];simp];exact hx.aG g3 lZ rfl
   ·rw[show ((Rat.divInt a 1).den:Int)=1 by rw[Rat.den_divInt];simp];exact In.small (by decide) (by decide)
  ·simp(disch:=first|(simp;done)|omega|(simp only[Zab,aq,ak];omega)|rfl) [-getElem?_pos,A.iM,a2,a3,a4,g1,g2,g3,aJ,aE,ag,aL,bE,o1,c1]
   exact fin _ (by simp[a2]) (by simp[a3]) (by simp[a4])
 ·simp only[V.agg.injEq,gC,V.int.injEq,true_and,and_true]at e0
  obtain⟨rfl,rfl⟩:=e0
  simp(disch:=first|(simp;done)|omega|(simp only[Zab,aq,ak];omega)|rfl) [-getElem?_pos,A.iM,a2,a3,a4,g1,g2,g3,aJ,aE,ag,aL,bE,o1]
  exact fin _ (by simp[a2]) (by simp[a3]) (by simp[a4])
def Ybu{y:V}(hx:In h N x a)(hy:In h N y b)(hb:b≠0)(la:wl a<10000000000)(lb:wl b<10000000000):Fn A.C 144 [x,y] h N (fun v h' n'=>Fc h' n' v (Rat.divInt a b)):=by
 intro w
 rw[aV,A.k144 (by simp)]
 obtain⟨n1,u1,rfl,zZ⟩:=hx.cells
 obtain⟨n2,u2,rfl,fD⟩:=hy.cells
 have o1:=zZ
 have o2:=fD
 unfold V.one at o1 o2
 have kB:ae h N (((h.set N (.cells [.int .i64 n1,u1] 108 true)).set (N+1) (.cells [.int .i64 n2,u2] 108 true)).set (N+2) (.cells [.int .i64 0,.aa,.int .i64 0,.aa] 110 true)) (N+3):=aI (aI (aI ae.refl _) _) _
 have done:∀(r:T V) (h1:T O) (m:Nat) (W1:List Nat) (a' b' Kt wY:Int) (u1' u2':V),N+3<=m->aD N W1=[]->(∀i,i<N->h1.get i=h.get i)->h1.get N=some (.cells [.int .i64 Kt,u1'] 108 true)->h1.get (N+1)=some (.cells [.int .i64 wY,u2'] 108 true)->h1.get (N+2)=some (.cells [.int .i64 0,.aa,.int .i64 0,.aa] 110 true)->
   In h1 m (.agg [.int .i64 Kt,u1']) a'->In h1 m (.agg [.int .i64 wY,u2']) b'->0<b'->wl a'<10000000000->wl b'<10000000000->Rat.divInt a' b'=Rat.divInt a b->r.get 2=some (.ptr N 0)->r.get 3=some (.ptr (N+1) 0)->r.get 4=some (.ptr (N+2) 0)->
   bH A.C [.fin [.cell 4 (some 4)] ⟨h,N,w⟩] (fx (A.C.code none A.iM ⟨r,34,[]⟩ ⟨h1,m,W1⟩)) (Co (aF (fun v h' n'=>Fc h' n' v (Rat.divInt a b)) h N w)):=by
  intro r h1 m W1 a' b' Kt wY u1' u2' hm SV hO g1 g2 g3 i1 i2 tU EA TZ hq b2 b3 b4
  refine mJ (Yrb hm SV g1 g2 g3 i1 i2 tU EA TZ b2 b3 b4) ?_
  rintro e fr ⟨H6,n6,W6⟩ ⟨rfl,r6,rfl,c4,q1,q2,q3,m1,v1,m2,v2,q4,q5⟩
  simp only at q1 q2 q3 q4 q5
  rw[hq]at q5
  simp(disch:=first|(simp;done)|omega|(simp only[Zab,aq,ak];omega)|rfl) [-getElem?_pos,c4,q4,aJ,aE,aF,q1]
  exact⟨⟨by omega,fun i hi=>(q2 i hi).trans (hO i hi)⟩,q5⟩
 simp(disch:=first|(simp;done)|omega|(simp only[Zab,aq,ak];omega)|rfl) [-getElem?_pos,A.b144,aJ,aE,ag,o1,o2]
 generalize gT:((h.set N (.cells [.int .i64 n1,u1] 108 true)).set (N+1) (.cells [.int .i64 n2,u2] 108 true)).set (N+2) (.cells [.int .i64 0,.aa,.int .i64 0,.aa] 110 true)=hB at*
 have b1:hB.get N=some (.cells [.int .i64 n1,u1] 108 true):=by rw[<-gT];simp
 have b2:hB.get (N+1)=some (.cells [.int .i64 n2,u2] 108 true):=by rw[<-gT];simp
 have b3:hB.get (N+2)=some (.cells [.int .i64 0,.aa,.int .i64 0,.aa] 110 true):=by rw[<-gT];simp
 refine az (JY (hy.ah kB)) ?_
 rintro _ h1 m1 k1 rfl
 have kk:=kB.trans k1
 have vT:=kk.le
 have ft:=k1.le
 have f1:=(k1.get N (by omega)).trans b1
 have f2:=(k1.get (N+1) (by omega)).trans b2
 have f3:=(k1.get (N+2) (by omega)).trans b3
 by_cases hbn:b<0
 ·have s1:df b= -1:=by unfold df;rw[aQ hbn]
  have l1:N<m1:=by omega
  simp(disch:=first|(simp;done)|omega|(simp only[Zab,aq,ak];omega)|rfl) [-getElem?_pos,s1,f1,f2,l1,aJ,aE,ag]
  refine az (My (hx.ah kk) (by omega)) ?_
  rintro _ h2 m2 k2 q1
  obtain⟨n3,u3,rfl,Du⟩:=q1.cells
  have o3:=Du
  unfold V.one at o3
  have gJ:=k2.le
  have f4:=(k2.get N (by omega)).trans f1
  have f5:=(k2.get (N+1) (by omega)).trans f2
  have f6:=(k2.get (N+2) (by omega)).trans f3
  have l2:N+1<m2:=by omega
  simp(disch:=first|(simp;done)|omega|(simp only[Zab,aq,ak];omega)|rfl) [-getElem?_pos,f4,f5,l2,aJ,aE,ag]
  refine az (My ((hy.ah kk).ah k2) (by omega)) ?_
  rintro _ h3 m3 k3 q2
  obtain⟨n4,u4,rfl,Qt⟩:=q2.cells
  have o4:=Qt
  unfold V.one at o4
  have oI:=k3.le
  have f7:=(k3.get N (by omega)).trans f4
  have f8:=(k3.get (N+1) (by omega)).trans f5
  have f9:=(k3.get (N+2) (by omega)).trans f6
  have l3:N+1<m3:=by omega
  have l4:N<m3:=by omega
  simp(disch:=first|(simp;done)|omega|(simp only[Zab,aq,ak];omega)|rfl) [-getElem?_pos,f7,f8,l3,l4,aJ,aE,ag,bE,o3,o4,bU.bZ]
  have i1:=(q1.ah k3).aG (c1:=[.int .i64 n3,u3]) (e1:=108) (w1:=true) f7 hx.nu rfl
  have i2:=q2.aG (c1:=[.int .i64 n3,u3]) (e1:=108) (w1:=true) f7 hx.nu rfl
  have f8':((h3.set N (.cells [.int .i64 n3,u3] 108 true)):T O).get (N+1)=some (.cells [.int .i64 n2,u2] 108 true):=by rw[T.aj,aA (by omega)];exact f8
  have j1:=i1.aG (c1:=[.int .i64 n4,u4]) (e1:=108) (w1:=true) f8' hy.nu rfl
  have j2:=i2.aG (c1:=[.int .i64 n4,u4]) (e1:=108) (w1:=true) f8' hy.nu rfl
  have l5:¬N+1<N:=by omega
  exact done _ _ _ _ (-a) (-b) n3 n4 u3 u4 (by omega) (by simp[aD,l5]) (fun i hi=>by rw[T.aj,aA (by omega),T.aj,aA (by omega),k3.get i (by omega),k2.get i (by omega),kk.get i hi]) (by rw[T.aj,aA (by omega),T.aj,aQ rfl]) (by rw[T.aj,aQ rfl]) (by rw[T.aj,aA (by omega),T.aj,aA (by omega)];exact f9) j1 j2 (by omega) (by rw[Qz];exact la) (by rw[Qz];exact lb) (Rat.neg_divInt_neg a b) (by simp) (by simp) (by simp)
 ·have s1:df b=1:=by unfold df;rw[aA hbn,aA hb]
  simp(disch:=first|(simp;done)|omega|(simp only[Zab,aq,ak];omega)|rfl) [-getElem?_pos,s1]
  exact done _ _ _ _ a b n1 n2 u1 u2 (by omega) (by simp[aD]) (fun i hi=>kk.get i hi) f1 f2 f3 (hx.ah kk) (hy.ah kk) (by omega) la lb rfl (by simp) (by simp) (by simp)
def A.b121:=A.q Tryz.f121
def A.k121:=@A.kk 121 16 [.cell 4 (some 4)] A.b121 (by kernel_rfl) rfl
def KY{x y:V}{p q:Rat}{h:T O}{N:Nat}(hx:Fc h N x p)(hy:Fc h N y q)(l1:wl p.num<1000000000)(l2:wl (p.den:Nat)<1000000000)(l3:wl q.num<1000000000)(l4:wl (q.den:Nat)<1000000000):Fn A.C 121 [x,y] h N (fun v h' n'=>Fc h' n' v (p*q)):=by
 intro w
 rw[aV,A.k121 (by simp)]
 obtain⟨n1,u1,n2,u2,rfl,s1,s2⟩:=hx
 obtain⟨n3,u3,n4,u4,rfl,s3,s4⟩:=hy
 have o1:=de s1
 have o2:=de s2
 have o3:=de s3
 have o4:=de s4
 unfold V.one at o1 o2 o3 o4
 have kB:ae h N (((h.set N (.cells [.int .i64 n1,u1,.int .i64 n2,u2] 110 true)).set (N+1) (.cells [.int .i64 n3,u3,.int .i64 n4,u4] 110 true)).set (N+2) (.cells [.int .i64 0,.aa,.int .i64 0,.aa] 110 true)) (N+3):=aI (aI (aI ae.refl _) _) _
 simp(disch:=first|(simp;done)|omega|(simp only[Zab,aq,ak];omega)|rfl) [-getElem?_pos,A.b121,aJ,aE,ag,o1,o2,o3,o4]
 generalize gT:((h.set N (.cells [.int .i64 n1,u1,.int .i64 n2,u2] 110 true)).set (N+1) (.cells [.int .i64 n3,u3,.int .i64 n4,u4] 110 true)).set (N+2) (.cells [.int .i64 0,.aa,.int .i64 0,.aa] 110 true)=hB at*
 have b1:hB.get N=some (.cells [.int .i64 n1,u1,.int .i64 n2,u2] 110 true):=by rw[<-gT];simp
 have b2:hB.get (N+1)=some (.cells [.int .i64 n3,u3,.int .i64 n4,u4] 110 true):=by rw[<-gT];simp
 have b3:hB.get (N+2)=some (.cells [.int .i64 0,.aa,.int .i64 0,.aa] 110 true):=by rw[<-gT];simp
 refine az (Ap (s1.ah kB) (s3.ah kB) (by omega) (by omega)) ?_
 rintro v5 h1 m1 k1 q1
 have ft:=k1.le
 have f1:=(k1.get N (by omega)).trans b1
 have f2:=(k1.get (N+1) (by omega)).trans b2
 have f3:=(k1.get (N+2) (by omega)).trans b3
 have e1:N<m1:=by omega
 have e2:N+1<m1:=by omega
 simp(disch:=first|(simp;done)|omega|(simp only[Zab,aq,ak];omega)|rfl) [-getElem?_pos,f1,f2,e1,e2,aJ,aE,ag]
 refine az (Ap ((s2.ah kB).ah k1) ((s4.ah kB).ah k1) (by omega) (by omega)) ?_
 rintro v6 h2 m2 k2 q2
 have gJ:=k2.le
 have f4:=(k2.get (N+2) (by omega)).trans f3
 simp(disch:=first|(simp;done)|omega|(simp only[Zab,aq,ak];omega)|rfl) [-getElem?_pos,]
 have hd:((p.den:Nat):Int)*((q.den:Nat):Int)≠0:=by
  have:=p.den_nz
  have:=q.den_nz
  exact LL (by omega) (by omega)
 refine az (Ybu (q1.ah k2) q2 hd ?_ ?_) ?_
 ·have:=C2 p.num q.num
  omega
 ·have:=C2 ((p.den:Nat):Int) ((q.den:Nat):Int)
  omega
 ·rintro v7 h3 m3 k3 hv
  rw[<-Rat.divInt_mul_divInt,AJ,AJ]at hv
  obtain⟨n5,u5,n6,u6,rfl,t1,t2⟩:=hv
  have o5:=de t1
  have o6:=de t2
  unfold V.one at o5 o6
  have oI:=k3.le
  have f5:=(k3.get (N+2) (by omega)).trans f4
  have e3:N+2<m3:=by omega
  simp(disch:=first|(simp;done)|omega|(simp only[Zab,aq,ak];omega)|rfl) [-getElem?_pos,f5,e3,aJ,aE,ag,bE,o5,o6,bU.bZ,aF]
  have kk:=((kB.trans k1).trans k2).trans k3
  exact⟨kk.set (by omega),n5,u5,n6,u6,rfl,t1.aG (i:=N+2) f5 lZ rfl,t2.aG (i:=N+2) f5 lZ rfl⟩
def Yb8{x:V}{q:Rat}{h:T O}{N:Nat}(hx:Fc h N x q):Fn A.C 182 [x] h N (fun v _ _=>v=.bool (decide (q.den=1))):=by
 intro w
 rw[aV,A.k182 (by simp)]
 obtain⟨n1,u1,n2,u2,rfl,s1,s2⟩:=hx
 have o1:=de s1
 have o2:=de s2
 unfold V.one at o1 o2
 rcases s2 with⟨e0,_,_⟩|⟨i,o,l,c,e0,_,hz⟩
 ·simp only[V.agg.injEq,gC,V.int.injEq,true_and,and_true]at e0
  obtain⟨rfl,rfl⟩:=e0
  by_cases c1:q.den=1
  ·have c2:((q.den:Nat):Int)=1:=by omega
   simp(disch:=first|(simp;done)|omega|(simp only[Zab,aq,ak];omega)|rfl) [-getElem?_pos,A.b182,aJ,aE,ag,o1,aL,c1,c2,aF]
   exact aI ae.refl _
  ·have c2:¬((q.den:Nat):Int)=1:=by omega
   simp(disch:=first|(simp;done)|omega|(simp only[Zab,aq,ak];omega)|rfl) [-getElem?_pos,A.b182,aJ,aE,ag,o1,aL,c1,c2,aF]
   exact aI ae.refl _
 ·simp only[V.agg.injEq,gC,V.int.injEq,true_and,and_true]at e0
  obtain⟨rfl,rfl⟩:=e0
  have c1:¬q.den=1:=by omega
  simp(disch:=first|(simp;done)|omega|(simp only[Zab,aq,ak];omega)|rfl) [-getElem?_pos,A.b182,aJ,aE,ag,o1,aL,c1,aF]
  exact aI ae.refl _
end
end Go.Mx
