/-num-/
import Derived.Test.YtgnadghjglamaaaGreatDoorNcB
set_option linter.all false
set_option maxHeartbeats 4000000
namespace Go.Mx
noncomputable section
open Go Go.Proofs
variable {b nB:Nat} {gs:List Str} {r:T V} {sT:St} {v:V}
set_option maxRecDepth 1000000
def A.w215:=A.q Tryz.f215
def A.lb215_0:=A.ql A.w215 1 []
def A.lb215_1:=A.ql A.w215 0 []
def A.ta215_0:=(fun x0 x1=>A.qt A.w215 [x0,x1] [] [1,1,1,1,1,1,1,1]) A.lb215_1 A.lb215_0
def A.b215:=(fun x0 x1 y0=>A.qt A.w215 [x0,x1] [([1,1,1,1,1,1,1,1],y0)] []) A.lb215_1 A.lb215_0 A.ta215_0
def A.k215:=@A.kk 215 69 [.tmp 2] A.b215 (by kernel_rfl) rfl
def grp(n:Nat):List Str:=if h:n=0 then [] else (if n/1000000000000000000=0 then decN n else Zh1 (n%1000000000000000000) 18)::grp (n/1000000000000000000)
termination_by n
decreasing_by omega
def Zlz:grp 0=[]:=by unfold grp;simp
def Zpx{n:Nat}(h:n≠0):grp n=(if n/1000000000000000000=0 then decN n else Zh1 (n%1000000000000000000) 18)::grp (n/1000000000000000000):=by
 conv=>lhs;unfold grp
 rw[dif_neg h]
def Ykp:∀{n:Nat},n≠0→(grp n).reverse.flatten=decN n:=by
 intro n
 induction n using Nat.strongRecOn with
 |_ n ih=>
  intro h
  rw[Zpx h]
  by_cases h0:n/1000000000000000000=0
  ·rw[Yrw h0,h0,Zlz];simp
  ·rw[Yrt h0,List.reverse_cons,List.flatten_append,ih _ (by omega) h0,Zgk h,Zgk h0]
   have e:=Zoz (k:=18) (a:=n/1000000000000000000) (b:=n%1000000000000000000) h0 (Ys2 _ (by decide))
   rw[show n/1000000000000000000*10^18+n%1000000000000000000=n by have:=Ytc n 1000000000000000000;omega]at e
   rw[e];simp
def Zrz{a:Nat}(h:a≤b):(Zcz a).length≤(Zcz b).length:=Zay.1 (Ysl h (Zay.2 (Yru _)))
def Ycg:∀{n:Nat},(grp n).length≤(Zcz n).length:=by
 intro n
 induction n using Nat.strongRecOn with
 |_ n ih=>
  by_cases h:n=0
  ·subst h;rw[Zlz];simp
  ·rw[Zpx h,Yrr,Zch h,Yr8]
   have h1:=ih (n/1000000000000000000) (by omega)
   have h2:=Zrz (a:=n/1000000000000000000) (b:=n/10) (by omega)
   simp;omega
def Yhu:∀{n:Nat} {s:Str},s∈grp n→s≠[]:=by
 intro n
 induction n using Nat.strongRecOn with
 |_ n ih=>
  intro s hs
  by_cases h:n=0
  ·subst h;rw[Zlz]at hs;cases hs
  ·rw[Zpx h]at hs
   rcases Yss.1 hs with hs|hs
   ·subst hs
    split
    ·exact Ziy n
    ·intro hc
     have:=Ygm (b:=n%1000000000000000000) (k:=18) (Ys2 _ (by decide))
     rw[hc]at this;simp at this
   ·exact ih _ (by omega) hs
def Zsq(l:List Str):List (List V):=l.map fun s=>[.str s]
def Ylz{q:V}{Q n n':Nat}{h h':T O}{e:TypeId}(hq:Wn h n q Q)(hQ:Q≠0)(hv:Own 1 e nB h n v (Zsq gs))(hh:∀j,j<n→h'.get j=h.get j∨(∃o m c y,v=.slice j o m c y))(hn:n≤n'):Wn h' n' q Q:=by
 obtain⟨d,hd⟩:∃d,(wds Q)[0]?=some d:=by rw[Zbr hQ];exact⟨_,rfl⟩
 rcases hq with⟨hz,_⟩|⟨i,o,cp,c,ee,rw,rfl,q1,q2,q3,q4⟩
 ·rw[Zbr hQ]at hz;simp[dg]at hz
 ·refine .inr ⟨i,o,cp,c,ee,rw,rfl,Yr5 q1 hn,?_,q3,q4⟩
  rcases hh i q1 with h1|⟨o',m,c',y,rfl⟩
  ·rw[h1];exact q2
  ·exfalso
   rcases hv with⟨_,⟨_,h1⟩|⟨i',h1,_,_,h2⟩⟩
   ·cases h1
   ·simp only[V.slice.injEq]at h1
    obtain⟨rfl,_⟩:=h1
    rw[q2]at h2
    simp only[Yrs,O.cells.injEq]at h2
    have h3:=q3 0 (by rw[Zab,Zbr hQ];simp)
    rw[Za9 hd,h2.1]at h3
    have:=Yr1 h3
    obtain⟨l,hl,hx⟩:=List.mem_flatten.1 this
    obtain⟨s,_,rfl⟩:=Ytq.1 hl
    simp at hx
structure StI (hB:T O) (nB M:Nat) (m:Nat) (r:T V) (st:St):Prop where
 w:Zae nB st.w=[]
 keep:Keeps hB nB st.h st.n
 ex:∃u v gs,r.get 4=some u∧r.get 6=some v∧Zqa u=some (wds m).length∧(m≠0→Wn st.h st.n u m)∧Own 1 9 nB st.h st.n v (Zsq gs)∧gs++grp m=grp M
def Yep{hB:T O}{M m:Nat}{r0:T V}{t:V}(hP:P10 hB nB)(hM:(Zcz M).length<100000000000)(hm:m≤M)(ht:Wn hB nB t 1000000000000000000)(a5:r.get 5=some t)(hf:Fx [(4,4),(6,9),(24,53)] r0 69 ⟨r,69,[]⟩)(s:StI hB nB M m r sT):
  Code A.C none A.lb215_1 ⟨r,69,[]⟩ sT (Rd [(4,4),(6,9),(24,53)] r0 69 (fun k r st=>k≤M∧StI hB nB M k r st) m (fun e r st=>e=.exit 0∧StI hB nB M 0 r st)):=by
 obtain⟨H,n1,W⟩:=sT
 obtain⟨hW,hK,u,v,gs,a4,a6,lu,hu,ho,hg⟩:=s
 simp only at hW hK hu ho
 rw[Zai]
 by_cases h0:m=0
 ·subst h0
  rw[Zbp]at lu
  simp(disch:=first|(simp;done)|omega|(simp only[Zab,Zaa,Yrr];omega)|rfl) [-getElem?_pos,A.lb215_1,hf,a4,lu]
  exact⟨hW,hK,u,v,gs,by simp[a4],by simp[a6],by rw[Zbp];exact lu,hu,ho,hg⟩
 ·replace hu:=hu h0
  have lp:0<(wds m).length:=by rw[Zbr h0];simp
  have lp':(0:Int)<((wds m).length:Int):=by omega
  have hwl:(wds m).length<1000000000000:=by
   have h1:=Ze7 (n:=m) (k:=(Zcz M).length) (Zay.2 (Zrz hm))
   unfold wl at h1
   simp at h1
   omega
  have hB0:(wds 1000000000000000000).length<1000000000000:=by rw[Zey (by decide) (by decide)];decide
  have hgl:gs.length+(grp m).length≤(Zcz M).length:=by
   rw[←Yr8,hg];exact Ycg
  have hgp:=Zpx h0
  rw[hgp,Yrr]at hgl
  simp(disch:=first|(simp;done)|omega|(simp only[Zab,Zaa,Yrr];omega)|rfl) [-getElem?_pos,A.lb215_1,hf,a4,a5,lu,lp,lp']
  refine Zac (Zrv hu (ht.keep hK) (by decide) hwl hB0) ?_
  rintro _ h2 n2 k2 ⟨q,rw0,rfl,hq,hrw⟩
  have lq:=hq.len
  have lr:=hrw.len
  rw[Zab]at lq lr
  have hrl:m%1000000000000000000<18446744073709551616:=by omega
  obtain⟨R,hR⟩:∃R,m%1000000000000000000=R:=⟨_,rfl⟩
  obtain⟨Q,hQ⟩:∃Q,m/1000000000000000000=Q:=⟨_,rfl⟩
  rw[hR]at lr hrw hgp
  rw[hQ]at lq hq hgp hgl
  have kk:=hK.trans k2
  have hp2:=hP.keep kk
  have app:∀(h3:T O) (n3:Nat) (W3:List Nat) (g:Str),Keeps h2 n2 h3 n3→Zae nB W3=[]→g=(if Q=0 then decN m else Zh1 R 18)→
    ∃v' h' w',Zbi ⟨h3.set n3 (.cells [.str g] 9 true),n3+1,W3⟩ 1 16 9 v (.slice n3 0 1 (some 1) 1)=some (v',⟨h',n3+1+1,w'⟩)∧Zae nB w'=[]∧Keeps hB nB h' (n3+1+1)∧(Q≠0→Wn h' (n3+1+1) q Q)∧Own 1 9 nB h' (n3+1+1) v' (Zsq (gs++[g]))∧(gs++[g])++grp Q=grp M:=by
   intro h3 n3 W3 g k3 hW3 hge
   have kk3:=kk.trans k3
   have nle:=kk3.le
   have ho3:=(ho.keep (k2.trans k3)).keep (kset Keeps.refl (.cells [.str g] 9 true))
   obtain⟨v',h',w',e1,e2,e3,e4,e5⟩:=Zb5 (x:=[.str g]) (u:=.slice n3 0 1 (some 1) 1) (bytes:=16) (w:=W3) ho3 (by omega) (by decide) rfl (by simp[Za0,St.row,slc]) (by simp[Zsq];omega)
   refine⟨v',h',w',e1,by rw[e2];exact hW3,(kk3.trans (kset Keeps.refl _)).then e3,fun hQ0=>?_,by simpa[Zsq]using e5,by rw[hge,←hg,hgp,Ysy];rfl⟩
   have hq3:=(hq.keep k3).keep (kset Keeps.refl (.cells [.str g] 9 true))
   refine Ylz hq3 hQ0 ho3 (fun j hj=>?_) (Yuu _)
   rcases e4 j with h1|h1|h1
   ·exact .inl h1
   ·omega
   ·exact .inr h1
  have f18:((18:Int)-1)=((17:Nat):Int):=rfl
  by_cases hR0:R=0
  ·have hQ0:Q≠0:=by omega
   have lqp:0<(wds Q).length:=by rw[Zbr hQ0];simp
   have lqp':(0:Int)<((wds Q).length:Int):=by omega
   have hge:[48,48,48,48,48,48,48,48,48,48,48,48,48,48,48,48,48,48]=(if Q=0 then decN m else Zh1 R 18):=by rw[Yrt hQ0,hR0];unfold Zh1;rw[Zbm];rfl
   rw[hR0,Zbp]at lr
   simp(disch:=first|(simp;done)|omega|(simp only[Zab,Zaa,Yrr];omega)|rfl) [-getElem?_pos,hf,a4,a5,a6,lq,lr,lqp,lqp']
   refine Zac (Zqs (k:=17) (by decide)) ?_
   rintro _ h3 n3 k3 rfl
   obtain⟨v',h',w',e1,e2,e3,e4,e5,e6⟩:=app h3 n3 W _ k3 hW hge
   simp(disch:=first|(simp;done)|omega|(simp only[Zab,Zaa,Yrr];omega)|rfl) [-getElem?_pos,hf,a4,a5,a6,lq,lr,lqp,lqp',Zbo,splice,e1]
   exact⟨Q,by omega,by omega,⟨e2,e3,q,v',_,by simp,by simp,lq,e4,e5,e6⟩⟩
  ·have hRw:wds R=[R]:=Zey (by unfold B;omega) hR0
   obtain⟨i,o,c,e,wr,p1,p2,p3,p4⟩:=hrw.at (Za9 (l:=wds R) (j:=0) (n:=R) (by rw[hRw];rfl))
   rw[hRw]at lr
   have lr:Zqa rw0=some 1:=lr
   have hRd:=Zgk hR0
   rw[Yty]at p4
   by_cases hQ0:Q=0
   ·have hge:decN R=(if Q=0 then decN m else Zh1 R 18):=by rw[Yrw hQ0];congr 1;omega
    have lqz:(wds Q).length=0:=by rw[hQ0,Zbp];rfl
    rw[lqz]at lq
    simp(disch:=first|(simp;done)|omega|(simp only[Zab,Zaa,Yrr];omega)|rfl) [-getElem?_pos,hf,a4,a5,a6,lq,lr,p1,p3,p4]
    refine Zac (Yhw (x:=R) (by omega) hp2) ?_
    rintro _ h3 n3 k3 rfl
    obtain⟨v',h',w',e1,e2,e3,e4,e5,e6⟩:=app h3 n3 W _ k3 hW hge
    simp(disch:=first|(simp;done)|omega|(simp only[Zab,Zaa,Yrr];omega)|rfl) [-getElem?_pos,hf,a4,a5,a6,lq,lr,Zbo,splice,e1]
    exact⟨Q,by omega,by omega,⟨e2,e3,q,v',_,by simp,by simp,by rw[lqz];exact lq,e4,e5,e6⟩⟩
   ·have lqp:0<(wds Q).length:=by rw[Zbr hQ0];simp
    have lqp':(0:Int)<((wds Q).length:Int):=by omega
    have hR18:(Zcz R).length≤18:=Zay.1 (by omega)
    have hge:List.replicate (18-(decN R).length) 48++decN R=(if Q=0 then decN m else Zh1 R 18):=by rw[Yrt hQ0,hRd];rfl
    have hs:(18:Int)-((decN R).length:Int)=((18-(decN R).length:Nat):Int):=by rw[hRd];omega
    have hln:¬(9223372036854775807:Int)<(((List.replicate (18-(decN R).length) (48:UInt8)).length+(decN R).length:Nat):Int):=by rw[List.length_replicate,hRd];omega
    simp(disch:=first|(simp;done)|omega|(simp only[Zab,Zaa,Yrr];omega)|rfl) [-getElem?_pos,hf,a4,a5,a6,lq,lr,lqp,lqp',p1,p3,p4]
    refine Zac (Yhw (x:=R) (by omega) hp2) ?_
    rintro _ h3 n3 k3 rfl
    generalize decN R=S at*
    simp(disch:=first|(simp;done)|omega|(simp only[Zab,Zaa,Yrr];omega)|rfl) [-getElem?_pos,hf,a4,a5,a6,lq,lr,lqp,lqp',hs]
    refine Zac (Zqs (k:=18-S.length) (by omega)) ?_
    rintro _ h4 n4 k4 rfl
    obtain⟨v',h',w',e1,e2,e3,e4,e5,e6⟩:=app h4 n4 W _ (k3.trans k4) hW hge
    generalize List.replicate (18-S.length) (48:UInt8)=Z at*
    have hmx:IntKind.max .i64=9223372036854775807:=rfl
    have hln2:¬(9223372036854775807:Int)<(Z.length:Int)+(S.length:Int):=by omega
    simp(disch:=first|(simp;done)|omega|(simp only[Zab,Zaa,Yrr];omega)|rfl) [-getElem?_pos,hf,a4,a5,a6,lq,lr,lqp,lqp',Zbo,hmx,hln,hln2,splice,e1]
    exact⟨Q,by omega,by omega,⟨e2,e3,q,v',_,by simp,by simp,lq,e4,e5,e6⟩⟩
structure SbI (hb:T O) (n0 b:Nat) (gs:List Str) (pre:Str) (k:Nat) (r:T V) (st:St):Prop where
 hk:k≤gs.length
 r11:r.get 11=some (.int .i64 ((k:Int)-1))
 w:Zae n0 st.w=[]
 oth:∀i,i<b→st.h.get i=hb.get i
 bd:Bd st.h st.n b (pre++(gs.drop k).reverse.flatten)
def Ygh(gs:List Str)(k:Nat):gs.reverse.flatten=(gs.drop k).reverse.flatten++(gs.take k).reverse.flatten:=by
 conv=>lhs;rw[←Ytj k gs]
 rw[List.reverse_append,List.flatten_append]
def Yem{j:Nat}{s:Str}(h:gs[j]?=some s):(Zsq gs).flatten[j]?=some (.str s):=by
 have:∀gs:List Str,(Zsq gs).flatten=gs.map V.str:=by
  intro gs
  induction gs with
  |nil=>rfl
  |cons a gs ih=>show V.str a::(Zsq gs).flatten=_;rw[ih];rfl
 rw[this,Yso,h];rfl
def Yeo{hb:T O}{nB n0 b k:Nat}{gs:List Str}{pre:Str}{v:V}{r r0:T V}{sT:St}(hn0:n0≤b)(hl:pre.length+gs.reverse.flatten.length<1000000000000)(hgl:gs.length<1000000000000)(hne:∀s∈gs,s≠[])(ho:Own 1 9 nB hb b v (Zsq gs))(a6:r.get 6=some v)(a10:r.get 10=some (.ptr b 0))(hf:Fx [(11,11),(59,67)] r0 69 ⟨r,69,[]⟩)(s:SbI hb n0 b gs pre k r sT):
  Code A.C none A.lb215_0 ⟨r,69,[]⟩ sT (Rd [(11,11),(59,67)] r0 69 (SbI hb n0 b gs pre) k (fun e r st=>e=.exit 2∧SbI hb n0 b gs pre 0 r st)):=by
 obtain⟨H,n1,W⟩:=sT
 obtain⟨hk,a11,hW,hO,hbd⟩:=s
 simp only at hW hO hbd
 rw[Zai]
 cases k with
 |zero=>
  have c1:¬(0:Int)≤((0:Nat):Int)-1:=by omega
  have a11':r.get 11=some (.int .i64 (-1)):=a11
  simp(disch:=first|(simp;done)|omega|(simp only[Zab,Zaa,Yrr];omega)|rfl) [-getElem?_pos,A.lb215_0,hf,a11']
  exact⟨hk,by simp[a11'],hW,hO,hbd⟩
 |succ j=>
  have e1:((j+1:Nat):Int)-1=(j:Int):=by omega
  rw[e1]at a11
  obtain⟨g,hg⟩:∃g,gs[j]?=some g:=⟨_,Yrx (by omega)⟩
  have hsg:=Yem hg
  have lv:=ho.len
  have lg:(Zsq gs).length=gs.length:=by simp[Zsq]
  rw[lg]at lv
  have hjl:(j:Int)<(gs.length:Int):=by omega
  rcases ho with⟨_,⟨h1,_⟩|⟨i,rfl,h2,h3,h4⟩⟩
  ·exfalso
   have:gs=[]:=by simpa[Zsq]using h1
   subst this;simp at hk
  ·have hrow:=(hO i h3).trans h4
   have hdc:(gs.drop j).reverse.flatten=(gs.drop (j+1)).reverse.flatten++g:=by
    have:gs.drop j=g::gs.drop (j+1):=by
     rw[Yt2 (by omega)]
     congr 1
     rw[Yrx (by omega)]at hg
     simpa using hg
    rw[this,List.reverse_cons,List.flatten_append];simp
   have hcut:=congrArg List.length (Ygh gs j)
   rw[hdc,Yr8,Yr8]at hcut
   simp(disch:=first|(simp;done)|omega|(simp only[Zab,Zaa,Yrr];omega)|rfl) [-getElem?_pos,A.lb215_0,hf,a6,a10,a11,lv,hrow,hsg,hjl,lg]
   refine Zd7 (Zzj hn0 hbd (hne g (Yr1 hg)) (by rw[Yr8];omega)) ?_
   rintro _ ⟨H2,n2,W2⟩ ⟨hn,hW2,hO2,hb2⟩
   simp only at hn hW2 hO2 hb2
   subst hn
   simp(disch:=first|(simp;done)|omega|(simp only[Zab,Zaa,Yrr];omega)|rfl) [-getElem?_pos,hf,a11]
   refine⟨j,by omega,by omega,by simp,by rw[hW2,hW],fun i hi=>(hO2 i hi).trans (hO i hi),?_⟩
   rw[hdc,←Ysy];exact hb2
def Zzw{hb:T O}{n0:Nat}{pre:Str}(hn0:n0≤b)(hl:pre.length+gs.reverse.flatten.length<1000000000000)(hgl:gs.length<1000000000000)(hne:∀s∈gs,s≠[])(hnn:pre++gs.reverse.flatten≠[])(ho:Own 1 9 nB hb b v (Zsq gs))(a6:r.get 6=some v)(a10:r.get 10=some (.ptr b 0))
  (hW:Zae n0 sT.w=[]) (hO:∀i,i<b→sT.h.get i=hb.get i) (hbd:Bd sT.h sT.n b pre):
  Code A.C none A.ta215_0 ⟨r,69,[]⟩ sT (fun e fr st=>e=.ret∧∃r',fr=⟨r',69,[]⟩∧r'.get 2=some (.str (pre++gs.reverse.flatten))∧Zae n0 st.w=[]∧(∀i,i<b→st.h.get i=hb.get i)∧b≤st.n):=by
 obtain⟨H,n1,W⟩:=sT
 simp only at hW hO hbd
 rw[Zai]
 have lv:=ho.len
 rw[show (Zsq gs).length=gs.length by simp[Zsq]]at lv
 simp(disch:=first|(simp;done)|omega|(simp only[Zab,Zaa,Yrr];omega)|rfl) [-getElem?_pos,A.ta215_0,a6,lv]
 refine Zak [(11,11),(59,67)] (fun e r st=>e=.exit 2∧SbI hb n0 b gs pre 0 r st) (SbI hb n0 b gs pre) gs.length ?_ ?_ ?_
 ·exact⟨Yru _,by simp,hW,hO,by simpa using hbd⟩
 ·intro k r' st' hr hf J
  exact Yeo hn0 hl hgl hne ho (by rw[hr 6 (by decide)];simp[a6]) (by rw[hr 10 (by decide)];simp[a10]) hf J
 ·rintro e r' ⟨H2,n2,W2⟩ hr ⟨rfl,hk,_,hW2,hO2,hb2⟩
  simp only at hW2 hO2 hb2
  rw[Yun]at hb2
  have hb3:=hb2.1
  have a10':r'.get 10=some (.ptr b 0):=by rw[hr 10 (by decide)];simp[a10]
  simp(disch:=first|(simp;done)|omega|(simp only[Zab,Zaa,Yrr];omega)|rfl) [-getElem?_pos,a10']
  refine Zd7 (Ylc hn0 hb2 hnn (by rw[Yr8];omega)) ?_
  rintro _ ⟨H3,n3,W3⟩ ⟨rfl,hn,hW3,hO3⟩
  simp only at hn hW3 hO3
  subst hn
  simp(disch:=first|(simp;done)|omega|(simp only[Zab,Zaa,Yrr];omega)|rfl) [-getElem?_pos,]
  exact⟨by rw[hW3,hW2],fun i hi=>(hO3 i hi).trans (hO2 i hi),by omega⟩
def Zjk{x:V}{z:Int}{h:T O}{N:Nat}(hx:In h N x z)(hP:P10 h N)(hl:(Zcz z.natAbs).length<100000000000):Fn A.C 215 [x] h N (fun v h' N'=>v=.str (decI z)):=by
 intro w
 rw[Zaf,A.k215 (by simp)]
 rcases id hx with⟨rfl,h1,h2⟩|⟨i0,o0,l0,c0,rfl,hw0,hz0⟩
 ·simp(disch:=first|(simp;done)|omega|(simp only[Zab,Zaa,Yrr];omega)|rfl) [-getElem?_pos,A.b215,Zaj,slc,splice,Zag]
  refine Zac (Yki h1 h2 (hP.keep (kset Keeps.refl _))) ?_
  rintro _ h3 n3 k3 rfl
  simp(disch:=first|(simp;done)|omega|(simp only[Zab,Zaa,Yrr];omega)|rfl) [-getElem?_pos,Ret]
  exact(kset Keeps.refl _).trans k3
 ·simp(disch:=first|(simp;done)|omega|(simp only[Zab,Zaa,Yrr];omega)|rfl) [-getElem?_pos,A.b215,Zaj,slc,splice,Zag]
  refine Zac (Zeq (hx.keep (kset Keeps.refl (.cells [.int .i64 (sgn z),.slice i0 o0 l0 c0 1] 108 true)))) ?_
  rintro _ h1 n1 k1 ⟨u,rfl,hu⟩
  obtain⟨M,hM⟩:∃M,z.natAbs=M:=⟨_,rfl⟩
  rw[hM]at hu hl
  have hM0:M≠0:=by omega
  have lu:=hu.len
  rw[Zab]at lu
  have kN:=(kset (Keeps.refl (h:=h) (n:=N)) (.cells [.int .i64 (sgn z),.slice i0 o0 l0 c0 1] 108 true)).trans k1
  have kT:=kset (Keeps.refl (h:=h1) (n:=n1)) (.cells [.int .u64 1000000000000000000] 217 true)
  have hT:Wn (h1.set n1 (.cells [.int .u64 1000000000000000000] 217 true)) (n1+1) (.slice n1 0 1 (some 1) 1) 1000000000000000000:=by
   unfold Wn
   rw[Zey (by decide) (by decide)]
   exact Sl.row (e:=217) (rw:=true) (L:=1) (by omega) (by simp[dg]) (by simp) (by simp)
  simp(disch:=first|(simp;done)|omega|(simp only[Zab,Zaa,Yrr];omega)|rfl) [-getElem?_pos,Zaj,slc,splice]
  generalize hhB:h1.set n1 (.cells [.int .u64 1000000000000000000] 217 true)=hB at*
  have hPB:=(hP.keep kN).keep kT
  refine Zak [(4,4),(6,9),(24,53)] (fun e r st=>e=.exit 0∧StI hB (n1+1) M 0 r st) (fun k r st=>k≤M∧StI hB (n1+1) M k r st) M ?_ ?_ ?_
  ·exact⟨Yru _,by simp[Zae],Keeps.refl,u,.nilslice,[],by simp,by simp,lu,fun _=>hu.keep kT,Own.nil,rfl⟩
  ·rintro m r st hr hf ⟨hm,J⟩
   exact Yep hPB hl hm hT (by rw[hr 5 (by decide)];simp) hf J
  ·rintro e r ⟨H,n2,W⟩ hr ⟨rfl,hW,hK,u2,v,gs,a4,a6,_,_,ho,hg⟩
   rw[Zlz,Ytz]at hg
   subst hg
   simp only at hW hK ho
   have nle:=hK.le
   have kle:=kN.le
   have a3:r.get 3=some (.bool (decide (z<0))):=by rw[hr 3 (by decide)];simp
   have htx:=Ykp hM0
   have hgl:(grp M).length<1000000000000:=Ysl Ycg (by omega)
   have hdl:(decN M).length<100000000000:=by rw[Zgk hM0];exact hl
   have hfr:Bd (H.set n2 (.cells [.nilptr,.nilslice] 251 true)) (n2+1) n2 []:=⟨Ys4 _,.nilptr,.nilslice,by rw[T.get_set,Yrw rfl],.inl rfl,.inl ⟨rfl,rfl⟩⟩
   by_cases hz:z<0
   ·have hde:decI z=[45]++(grp M).reverse.flatten:=by unfold decI;rw[Yrw hz,hM,htx];rfl
    simp(disch:=first|(simp;done)|omega|(simp only[Zab,Zaa,Yrr];omega)|rfl) [-getElem?_pos,a3,hz]
    refine Zd7 (Zzj (n0:=n1+1) nle hfr (t:=[45]) (by decide) (by decide)) ?_
    rintro _ ⟨H2,n3,W2⟩ ⟨hn,hW2,hO2,hb2⟩
    simp only at hn hW2 hO2 hb2
    subst hn
    simp(disch:=first|(simp;done)|omega|(simp only[Zab,Zaa,Yrr];omega)|rfl) [-getElem?_pos,]
    refine Za7 (Zzw (nB:=n1+1) (n0:=n1+1) (b:=n2) (hb:=H) (gs:=grp M) (pre:=[45]) (v:=v) nle (by rw[htx];simp;omega) hgl (fun s hs=>Yhu hs) (by simp) ho (by simp[a6]) (by simp) (by rw[hW2,hW]) (fun i hi=>by rw[hO2 i hi,T.get_set,Yrt (by omega)]) hb2) ?_
    rintro e fr ⟨H6,n6,W6⟩ ⟨rfl,r6,rfl,g2,g3,g4,g5⟩
    simp only at g3 g4 g5
    have hW6:=Zfk (show N≤n1+1 by omega) g3
    simp(disch:=first|(simp;done)|omega|(simp only[Zab,Zaa,Yrr];omega)|rfl) [-getElem?_pos,g2,Ret,hW6,hde]
    exact⟨by omega,fun i hi=>by rw[g4 i (by omega),hK.get i (by omega),←hhB,T.get_set,Yrt (by omega),kN.get i hi]⟩
   ·have hde:decI z=[]++(grp M).reverse.flatten:=by unfold decI;rw[Yrt hz,hM,htx];rfl
    simp(disch:=first|(simp;done)|omega|(simp only[Zab,Zaa,Yrr];omega)|rfl) [-getElem?_pos,a3,hz]
    refine Za7 (Zzw (nB:=n1+1) (n0:=n1+1) (b:=n2) (hb:=H) (gs:=grp M) (pre:=[]) (v:=v) nle (by rw[htx];simp;omega) hgl (fun s hs=>Yhu hs) (by rw[List.nil_append,htx];exact Ziy M) ho (by simp[a6]) (by simp) hW (fun i hi=>by rw[T.get_set,Yrt (by omega)]) hfr) ?_
    rintro e fr ⟨H6,n6,W6⟩ ⟨rfl,r6,rfl,g2,g3,g4,g5⟩
    simp only at g3 g4 g5
    have hW6:=Zfk (show N≤n1+1 by omega) g3
    simp(disch:=first|(simp;done)|omega|(simp only[Zab,Zaa,Yrr];omega)|rfl) [-getElem?_pos,g2,Ret,hW6,hde]
    exact⟨by omega,fun i hi=>by rw[g4 i (by omega),hK.get i (by omega),←hhB,T.get_set,Yrt (by omega),kN.get i hi]⟩
variable {N:Nat} {a b z:Int} {h:T O} {x:V}
def A.b127:=A.q Tryz.f127
def A.k127:=@A.kk 127 6 [.cell 2 (some 4)] A.b127 (by kernel_rfl) rfl
def A.b75:=A.q Tryz.f75
def A.k75:=@A.kk 75 6 [.cell 2 (some 4)] A.b75 (by kernel_rfl) rfl
def A.b182:=A.q Tryz.f182
def A.k182:=@A.kk 182 13 [.tmp 2] A.b182 (by kernel_rfl) rfl
def A.w144:=A.q Tryz.f144
def A.ta144_0:=A.qt A.w144 [] [] [1,1,1]
def A.ta144_1:=(fun y0=>A.qt A.w144 [] [([1,1,1],y0)] [1,1]) A.ta144_0
def A.b144:=(fun y0=>A.qt A.w144 [] [([1,1],y0)] []) A.ta144_1
def A.k144:=@A.kk 144 34 [.cell 4 (some 4)] A.b144 (by kernel_rfl) rfl
def Fc(h:T O)(N:Nat)(x:V)(q:Rat):Prop:=∃n1 u1 n2 u2,x=.agg [.int .i64 n1,u1,.int .i64 n2,u2]∧In h N (.agg [.int .i64 n1,u1]) q.num∧In h N (.agg [.int .i64 n2,u2]) (q.den:Nat)
def Fc.keep{h':T O}{N':Nat}{q:Rat}(s:Fc h N x q)(k:Keeps h N h' N'):Fc h' N' x q:=by
 obtain⟨n1,u1,n2,u2,rfl,s1,s2⟩:=s
 exact⟨n1,u1,n2,u2,rfl,s1.keep k,s2.keep k⟩
def Za2{n:Int}{u:V}(s:In h N (.agg [.int .i64 n,u]) z):V.one u=true:=by
 obtain⟨n',u',e,h1⟩:=s.cells
 simp at e
 rw[e.2];exact h1
def Zo9(hx:In h N x z):Fn A.C 127 [x] h N (fun v h' N'=>Fc h' N' v (z:Rat)):=by
 intro w
 rw[Zaf,A.k127 (by simp)]
 obtain⟨n,u,rfl,hu⟩:=hx.cells
 have hu':=hu
 unfold V.one at hu'
 simp(disch:=first|(simp;done)|omega|(simp only[Zab,Zaa,Yrr];omega)|rfl) [-getElem?_pos,A.b127,Zaj,slc,splice,hu']
 refine Zac Ztj ?_
 rintro _ h1 n1 k1 rfl
 have kle:=k1.le
 have g0:=k1.get (N+1) (by omega)
 simp at g0
 simp(disch:=first|(simp;done)|omega|(simp only[Zab,Zaa,Yrr];omega)|rfl) [-getElem?_pos,Zaj,slc,splice,Zam,g0,hu',Zal.chk,Ret]
 have kk:=(((kset (kset Keeps.refl (.cells [.int .i64 n,u] 108 true)) (.cells [.int .i64 0,.nilslice,.int .i64 0,.nilslice] 110 true)).trans k1).set (h:=h) (n:=N) (i:=N+1) (o:=.cells [.int .i64 n,u,.int .i64 1,.nilslice] 110 true) (by omega))
 refine⟨?_,kk,n,u,1,.nilslice,rfl,?_,?_⟩
 ·split<;>simp[Zae]
 ·exact hx.keep kk
 ·exact In.small (by decide) (by decide)
def Zt9(h1: -9223372036854775808≤z)(h2:z<9223372036854775808){h:T O}{N:Nat}:Fn A.C 75 [.int .i64 z] h N (fun v h' N'=>Fc h' N' v (z:Rat)):=by
 intro w
 rw[Zaf,A.k75 (by simp)]
 simp(disch:=first|(simp;done)|omega|(simp only[Zab,Zaa,Yrr];omega)|rfl) [-getElem?_pos,A.b75]
 refine Zac Ztj ?_
 rintro _ h3 n3 k3 rfl
 simp(disch:=first|(simp;done)|omega|(simp only[Zab,Zaa,Yrr];omega)|rfl) [-getElem?_pos,]
 refine Zac (Zo9 (In.small h1 h2)) ?_
 rintro _ h4 n4 k4 ⟨n1,u1,n2,u2,rfl,s1,s2⟩
 have kle:=k3.le
 have kle4:=k4.le
 have g0:=(k4.get N (by omega)).trans (k3.get N (by omega))
 simp at g0
 have o1:=Za2 s1
 have o2:=Za2 s2
 unfold V.one at o1 o2
 simp(disch:=first|(simp;done)|omega|(simp only[Zab,Zaa,Yrr];omega)|rfl) [-getElem?_pos,Zaj,slc,splice,Zam,g0,o1,o2,Zal.chk,Ret]
 have kk:=(((kset (Keeps.refl (h:=h) (n:=N)) (.cells [.int .i64 0,.nilslice,.int .i64 0,.nilslice] 110 true)).trans k3).trans k4).set (h:=h) (n:=N) (i:=N) (o:=.cells [.int .i64 n1,u1,.int .i64 n2,u2] 110 true) (by omega)
 have g1:=(k4.get N (by omega)).trans (k3.get N (by omega))
 rw[T.get_set,Yrw rfl]at g1
 have hn:∀x∈[V.int .i64 0,V.nilslice,V.int .i64 0,V.nilslice],∀m,x≠.int .u64 m:=by
  intro x hx m hc
  simp at hx
  rcases hx with rfl|rfl|rfl|rfl<;>cases hc
 exact⟨kk,n1,u1,n2,u2,rfl,s1.setNU g1 hn rfl,s2.setNU g1 hn rfl⟩
def nu0:∀x∈[V.int .i64 0,V.nilslice,V.int .i64 0,V.nilslice],∀m,x≠.int .u64 m:=by
 intro x hx m hc
 simp at hx
 rcases hx with rfl|rfl|rfl|rfl<;>cases hc
structure MkE (H:T O) (N:Nat) (q:Rat) (st:St):Prop where
 w:Zae N st.w=[]
 old:∀i,i<N→st.h.get i=H.get i
 le:N+3≤st.n
 ex:∃n1 u1 n2 u2,st.h.get (N+2)=some (.cells [.int .i64 n1,u1,.int .i64 n2,u2] 110 true)∧Fc st.h st.n (.agg [.int .i64 n1,u1,.int .i64 n2,u2]) q
def Yrc{H:T O}{n:Nat}{W:List Nat}{r:T V}{n1 n2:Int}{u1 u2:V}(hn:N+3≤n)(hW:Zae N W=[])(g1:H.get N=some (.cells [.int .i64 n1,u1] 108 true))(g2:H.get (N+1)=some (.cells [.int .i64 n2,u2] 108 true))(g3:H.get (N+2)=some (.cells [.int .i64 0,.nilslice,.int .i64 0,.nilslice] 110 true))
  (hx:In H n (.agg [.int .i64 n1,u1]) a) (hy:In H n (.agg [.int .i64 n2,u2]) b) (hb:0<b) (la:wl a<10000000000) (lb:wl b<10000000000) (a2:r.get 2=some (.ptr N 0)) (a3:r.get 3=some (.ptr (N+1) 0)) (a4:r.get 4=some (.ptr (N+2) 0)):
  Code A.C none A.ta144_0 ⟨r,34,[]⟩ ⟨H,n,W⟩ (fun e fr st=>e=.ret∧∃r',fr=⟨r',34,[]⟩∧r'.get 4=some (.ptr (N+2) 0)∧MkE H N (Rat.divInt a b) st):=by
 rw[Zai]
 have o1:=Za2 hx
 have o2:=Za2 hy
 unfold V.one at o1 o2
 simp(disch:=first|(simp;done)|omega|(simp only[Zab,Zaa,Yrr];omega)|rfl) [-getElem?_pos,A.ta144_0,a2,a3,a4,g1,g2,Zaj,slc,splice]
 refine Zac (Yhv hx hy la lb) ?_
 rintro _ h1 m1 k1 hg
 obtain⟨ng,ug,rfl,hug⟩:=hg.cells
 have hug':=hug
 unfold V.one at hug'
 have kle:=k1.le
 have g1':=(k1.get N (by omega)).trans g1
 have g2':=(k1.get (N+1) (by omega)).trans g2
 have g3':=(k1.get (N+2) (by omega)).trans g3
 have d1:¬N=m1:=by omega
 have d2:¬N+1=m1:=by omega
 have d3:¬N+2=m1:=by omega
 have e1:N<m1+1:=by omega
 have e2:N+1<m1+1:=by omega
 have e3:N+2<m1+1:=by omega
 have hgp:0<Int.gcd a b:=Int.gcd_pos_of_ne_zero_right a (by omega)
 obtain⟨G,hG⟩:∃G,Int.gcd a b=G:=⟨_,rfl⟩
 rw[hG]at hgp hg
 have hGb:(G:Int)≤b:=by
  rw[←hG]
  exact Int.le_of_dvd hb (Int.gcd_dvd_right ..)
 have lg:wl (G:Int)<10000000000:=Ysl (Zsj (by omega)) lb
 have kS:Keeps h1 m1 ((h1.set m1 (.cells [.int .i64 0,.nilslice] 108 true)).set m1 (.cells [.int .i64 ng,ug] 108 true)) (m1+1):=(kset Keeps.refl _).set (Yru _)
 simp(disch:=first|(simp;done)|omega|(simp only[Zab,Zaa,Yrr];omega)|rfl) [-getElem?_pos,a2,a3,a4,g1',g2',d1,d2,d3,Zaj,slc,splice,Zam,hug',o1,o2,e1,e2]
 refine Zac (Yhj ((hx.keep k1).keep kS) (hg.keep kS) (by omega) la lg) ?_
 rintro _ h2 m2 k2 hq1
 obtain⟨n3,u3,rfl,hu3⟩:=hq1.cells
 have o3:=hu3
 unfold V.one at o3
 have kT:=(k1.trans kS).trans k2
 have kle2:=kT.le
 have f1:=(kT.get N (by omega)).trans g1
 have f2:=(kT.get (N+1) (by omega)).trans g2
 have f3:=(kT.get (N+2) (by omega)).trans g3
 have f5:=k2.get m1 (by omega)
 rw[T.get_set,Yrw rfl]at f5
 have kle3:=k2.le
 have e4:N+1<m2:=by omega
 have e5:m1<m2:=by omega
 have e6:N+2<m2:=by omega
 simp(disch:=first|(simp;done)|omega|(simp only[Zab,Zaa,Yrr];omega)|rfl) [-getElem?_pos,a2,a3,a4,f1,f2,f5,Zaj,slc,splice,Zam,hug',o1,o2,o3,e4,e5]
 refine Zac (Yhj ((hy.keep kT)) ((hg.keep kS).keep k2) (by omega) lb lg) ?_
 rintro _ h3 m3 k3 hq2
 obtain⟨n4,u4,rfl,hu4⟩:=hq2.cells
 have o4:=hu4
 unfold V.one at o4
 have kU:=kT.trans k3
 have kle4:=kU.le
 have f6:=(kU.get (N+2) (by omega)).trans g3
 have e7:N+2<m3:=by omega
 simp(disch:=first|(simp;done)|omega|(simp only[Zab,Zaa,Yrr];omega)|rfl) [-getElem?_pos,a4,f6,Zaj,slc,splice,Zam,o3,o4,e7,Zal.chk]
 have hnum:(Rat.divInt a b).num=a/(G:Int):=by
  rw[Rat.num_divInt,Int.sign_eq_one_of_pos hb,Int.one_mul,Int.gcd_comm,hG]
 have hden:((Rat.divInt a b).den:Int)=b/(G:Int):=by
  rw[Rat.den_divInt,Yrt (by omega),Int.gcd_comm,hG,Int.natCast_ediv,Int.natAbs_of_nonneg (by omega)]
 have n2':¬N+2<N:=by omega
 have n3':¬m1<N:=by omega
 refine⟨by simp[Zae,hW,n2',n3'],fun i hi=>?_,by show N+3≤m3;omega,n3,u3,n4,u4,by show T.get (T.set _ _ _) _=_;rw[T.get_set,Yrw rfl],n3,u3,n4,u4,rfl,?_,?_⟩
 ·show T.get (T.set _ _ _) _=_
  rw[T.get_set,Yrt (by omega),kU.get i (by omega)]
 ·rw[hnum];exact(hq1.keep k3).setNU f6 nu0 rfl
 ·rw[hden];exact hq2.setNU f6 nu0 rfl
def Yrb{H:T O}{n:Nat}{W:List Nat}{r:T V}{n1 n2:Int}{u1 u2:V}(hn:N+3≤n)(hW:Zae N W=[])(g1:H.get N=some (.cells [.int .i64 n1,u1] 108 true))(g2:H.get (N+1)=some (.cells [.int .i64 n2,u2] 108 true))(g3:H.get (N+2)=some (.cells [.int .i64 0,.nilslice,.int .i64 0,.nilslice] 110 true))
  (hx:In H n (.agg [.int .i64 n1,u1]) a) (hy:In H n (.agg [.int .i64 n2,u2]) b) (hb:0<b) (la:wl a<10000000000) (lb:wl b<10000000000) (a2:r.get 2=some (.ptr N 0)) (a3:r.get 3=some (.ptr (N+1) 0)) (a4:r.get 4=some (.ptr (N+2) 0)):
  Code A.C none A.ta144_1 ⟨r,34,[]⟩ ⟨H,n,W⟩ (fun e fr st=>e=.ret∧∃r',fr=⟨r',34,[]⟩∧r'.get 4=some (.ptr (N+2) 0)∧MkE H N (Rat.divInt a b) st):=by
 rw[Zai]
 have o1:=Za2 hx
 have o2:=Za2 hy
 unfold V.one at o1 o2
 have fin:∀r':T V,r'.get 2=some (.ptr N 0)→r'.get 3=some (.ptr (N+1) 0)→r'.get 4=some (.ptr (N+2) 0)→Run A.C [] (exR (A.C.code none A.ta144_0 ⟨r',34,[]⟩ ⟨H,n,W⟩)) (exQ (fun e fr st=>e=.ret∧∃r',fr=⟨r',34,[]⟩∧r'.get 4=some (.ptr (N+2) 0)∧MkE H N (Rat.divInt a b) st)):=fun r' b2 b3 b4=>Zai.1 (Yrc hn hW g1 g2 g3 hx hy hb la lb b2 b3 b4)
 have hy0:=hy
 rcases hy0 with⟨e0,_,_⟩|⟨i,o,l,c,e0,_,_⟩
 ·simp only[V.agg.injEq,Yse,V.int.injEq,true_and,and_true]at e0
  obtain⟨rfl,rfl⟩:=e0
  by_cases c1:n2=1
  ·subst c1
   simp(disch:=first|(simp;done)|omega|(simp only[Zab,Zaa,Yrr];omega)|rfl) [-getElem?_pos,A.ta144_1,a2,a3,a4,g1,g2,g3,Zaj,slc,splice,Zag,Zam,o1]
   have n2':¬N+2<N:=by omega
   refine⟨by simp[Zae,hW,n2'],fun i hi=>?_,hn,n1,u1,1,.nilslice,by show T.get (T.set _ _ _) _=_;rw[T.get_set,Yrw rfl],n1,u1,1,.nilslice,rfl,?_,?_⟩
   ·show T.get (T.set _ _ _) _=_
    rw[T.get_set,Yrt (by omega)]
   ·rw[show (Rat.divInt a 1).num=a by rw[Rat.num_divInt];simp];exact hx.setNU g3 nu0 rfl
   ·rw[show ((Rat.divInt a 1).den:Int)=1 by rw[Rat.den_divInt];simp];exact In.small (by decide) (by decide)
  ·simp(disch:=first|(simp;done)|omega|(simp only[Zab,Zaa,Yrr];omega)|rfl) [-getElem?_pos,A.ta144_1,a2,a3,a4,g1,g2,g3,Zaj,slc,splice,Zag,Zam,o1,c1]
   exact fin _ (by simp[a2]) (by simp[a3]) (by simp[a4])
 ·simp only[V.agg.injEq,Yse,V.int.injEq,true_and,and_true]at e0
  obtain⟨rfl,rfl⟩:=e0
  simp(disch:=first|(simp;done)|omega|(simp only[Zab,Zaa,Yrr];omega)|rfl) [-getElem?_pos,A.ta144_1,a2,a3,a4,g1,g2,g3,Zaj,slc,splice,Zag,Zam,o1]
  exact fin _ (by simp[a2]) (by simp[a3]) (by simp[a4])
def Ybu{y:V}(hx:In h N x a)(hy:In h N y b)(hb:b≠0)(la:wl a<10000000000)(lb:wl b<10000000000):Fn A.C 144 [x,y] h N (fun v h' n'=>Fc h' n' v (Rat.divInt a b)):=by
 intro w
 rw[Zaf,A.k144 (by simp)]
 obtain⟨n1,u1,rfl,hu1⟩:=hx.cells
 obtain⟨n2,u2,rfl,hu2⟩:=hy.cells
 have o1:=hu1
 have o2:=hu2
 unfold V.one at o1 o2
 have kB:Keeps h N (((h.set N (.cells [.int .i64 n1,u1] 108 true)).set (N+1) (.cells [.int .i64 n2,u2] 108 true)).set (N+2) (.cells [.int .i64 0,.nilslice,.int .i64 0,.nilslice] 110 true)) (N+3):=kset (kset (kset Keeps.refl _) _) _
 have done:∀(r:T V) (h1:T O) (m:Nat) (W1:List Nat) (a' b' n1' n2':Int) (u1' u2':V),N+3≤m→Zae N W1=[]→(∀i,i<N→h1.get i=h.get i)→h1.get N=some (.cells [.int .i64 n1',u1'] 108 true)→h1.get (N+1)=some (.cells [.int .i64 n2',u2'] 108 true)→h1.get (N+2)=some (.cells [.int .i64 0,.nilslice,.int .i64 0,.nilslice] 110 true)→
   In h1 m (.agg [.int .i64 n1',u1']) a'→In h1 m (.agg [.int .i64 n2',u2']) b'→0<b'→wl a'<10000000000→wl b'<10000000000→Rat.divInt a' b'=Rat.divInt a b→r.get 2=some (.ptr N 0)→r.get 3=some (.ptr (N+1) 0)→r.get 4=some (.ptr (N+2) 0)→
   Run A.C [.fin [.cell 4 (some 4)] ⟨h,N,w⟩] (exR (A.C.code none A.ta144_1 ⟨r,34,[]⟩ ⟨h1,m,W1⟩)) (Yed (Ret (fun v h' n'=>Fc h' n' v (Rat.divInt a b)) h N w)):=by
  intro r h1 m W1 a' b' n1' n2' u1' u2' hm hW1 hO g1 g2 g3 i1 i2 hb' la' lb' hq b2 b3 b4
  refine Za7 (Yrb hm hW1 g1 g2 g3 i1 i2 hb' la' lb' b2 b3 b4) ?_
  rintro e fr ⟨H6,n6,W6⟩ ⟨rfl,r6,rfl,c4,q1,q2,q3,m1,v1,m2,v2,q4,q5⟩
  simp only at q1 q2 q3 q4 q5
  rw[hq]at q5
  simp(disch:=first|(simp;done)|omega|(simp only[Zab,Zaa,Yrr];omega)|rfl) [-getElem?_pos,c4,q4,Zaj,slc,Ret,q1]
  exact⟨⟨by omega,fun i hi=>(q2 i hi).trans (hO i hi)⟩,q5⟩
 simp(disch:=first|(simp;done)|omega|(simp only[Zab,Zaa,Yrr];omega)|rfl) [-getElem?_pos,A.b144,Zaj,slc,splice,o1,o2]
 generalize hhB:((h.set N (.cells [.int .i64 n1,u1] 108 true)).set (N+1) (.cells [.int .i64 n2,u2] 108 true)).set (N+2) (.cells [.int .i64 0,.nilslice,.int .i64 0,.nilslice] 110 true)=hB at*
 have b1:hB.get N=some (.cells [.int .i64 n1,u1] 108 true):=by rw[←hhB];simp
 have b2:hB.get (N+1)=some (.cells [.int .i64 n2,u2] 108 true):=by rw[←hhB];simp
 have b3:hB.get (N+2)=some (.cells [.int .i64 0,.nilslice,.int .i64 0,.nilslice] 110 true):=by rw[←hhB];simp
 refine Zac (Zik (hy.keep kB)) ?_
 rintro _ h1 m1 k1 rfl
 have kk:=kB.trans k1
 have kle:=kk.le
 have kle1:=k1.le
 have f1:=(k1.get N (by omega)).trans b1
 have f2:=(k1.get (N+1) (by omega)).trans b2
 have f3:=(k1.get (N+2) (by omega)).trans b3
 by_cases hbn:b<0
 ·have s1:sg3 b= -1:=by unfold sg3;rw[Yrw hbn]
  have l1:N<m1:=by omega
  simp(disch:=first|(simp;done)|omega|(simp only[Zab,Zaa,Yrr];omega)|rfl) [-getElem?_pos,s1,f1,f2,l1,Zaj,slc,splice]
  refine Zac (Zor (hx.keep kk) (by omega)) ?_
  rintro _ h2 m2 k2 q1
  obtain⟨n3,u3,rfl,hu3⟩:=q1.cells
  have o3:=hu3
  unfold V.one at o3
  have kle2:=k2.le
  have f4:=(k2.get N (by omega)).trans f1
  have f5:=(k2.get (N+1) (by omega)).trans f2
  have f6:=(k2.get (N+2) (by omega)).trans f3
  have l2:N+1<m2:=by omega
  simp(disch:=first|(simp;done)|omega|(simp only[Zab,Zaa,Yrr];omega)|rfl) [-getElem?_pos,f4,f5,l2,Zaj,slc,splice]
  refine Zac (Zor ((hy.keep kk).keep k2) (by omega)) ?_
  rintro _ h3 m3 k3 q2
  obtain⟨n4,u4,rfl,hu4⟩:=q2.cells
  have o4:=hu4
  unfold V.one at o4
  have kle3:=k3.le
  have f7:=(k3.get N (by omega)).trans f4
  have f8:=(k3.get (N+1) (by omega)).trans f5
  have f9:=(k3.get (N+2) (by omega)).trans f6
  have l3:N+1<m3:=by omega
  have l4:N<m3:=by omega
  simp(disch:=first|(simp;done)|omega|(simp only[Zab,Zaa,Yrr];omega)|rfl) [-getElem?_pos,f7,f8,l3,l4,Zaj,slc,splice,Zam,o3,o4,Zal.chk]
  have i1:=(q1.keep k3).setNU (c1:=[.int .i64 n3,u3]) (e1:=108) (w1:=true) f7 hx.nu rfl
  have i2:=q2.setNU (c1:=[.int .i64 n3,u3]) (e1:=108) (w1:=true) f7 hx.nu rfl
  have f8':((h3.set N (.cells [.int .i64 n3,u3] 108 true)):T O).get (N+1)=some (.cells [.int .i64 n2,u2] 108 true):=by rw[T.get_set,Yrt (by omega)];exact f8
  have j1:=i1.setNU (c1:=[.int .i64 n4,u4]) (e1:=108) (w1:=true) f8' hy.nu rfl
  have j2:=i2.setNU (c1:=[.int .i64 n4,u4]) (e1:=108) (w1:=true) f8' hy.nu rfl
  have l5:¬N+1<N:=by omega
  exact done _ _ _ _ (-a) (-b) n3 n4 u3 u4 (by omega) (by simp[Zae,l5]) (fun i hi=>by rw[T.get_set,Yrt (by omega),T.get_set,Yrt (by omega),k3.get i (by omega),k2.get i (by omega),kk.get i hi]) (by rw[T.get_set,Yrt (by omega),T.get_set,Yrw rfl]) (by rw[T.get_set,Yrw rfl]) (by rw[T.get_set,Yrt (by omega),T.get_set,Yrt (by omega)];exact f9) j1 j2 (by omega) (by rw[Zqf];exact la) (by rw[Zqf];exact lb) (Rat.neg_divInt_neg a b) (by simp) (by simp) (by simp)
 ·have s1:sg3 b=1:=by unfold sg3;rw[Yrt hbn,Yrt hb]
  simp(disch:=first|(simp;done)|omega|(simp only[Zab,Zaa,Yrr];omega)|rfl) [-getElem?_pos,s1]
  exact done _ _ _ _ a b n1 n2 u1 u2 (by omega) (by simp[Zae]) (fun i hi=>kk.get i hi) f1 f2 f3 (hx.keep kk) (hy.keep kk) (by omega) la lb rfl (by simp) (by simp) (by simp)
end
end Go.Mx
