/-num-/
import Derived.Test.YtjjmkflbfpeagaaGreatDoorNcB
set_option linter.all false
set_option maxHeartbeats 4000000
namespace Go.Mx
noncomputable section
open Go Go.Proofs
variable {b nB:Nat} {gs:List aU} {r:T V} {sT:St} {v:V}
set_option maxRecDepth 1000000
def A.Bk:=A.q Tryz.f193
def A.js:=A.ql A.Bk 1 []
def A.jt:=A.ql A.Bk 0 []
def A.pL:=(fun x0 x1=>A.qt A.Bk [x0,x1] [] [1,1,1,1,1,1,1,1]) A.jt A.js
def A.b193:=(fun x0 x1 y0=>A.qt A.Bk [x0,x1] [([1,1,1,1,1,1,1,1],y0)] []) A.jt A.js A.pL
def A.k193:=@A.kk 193 69 [.tmp 2] A.b193 (by kernel_rfl) rfl
def pM(n:Nat):List aU:=if h:n=0 then [] else (if n/1000000000000000000=0 then aj n else gS (n%1000000000000000000) 18)::pM (n/1000000000000000000)
termination_by n
decreasing_by omega
def OS:pM 0=[]:=by unfold pM;simp
def OT{n:Nat}(h:n≠0):pM n=(if n/1000000000000000000=0 then aj n else gS (n%1000000000000000000) 18)::pM (n/1000000000000000000):=by
 conv=>lhs;unfold pM
 rw[dif_neg h]
def Yk8:∀{n:Nat},n≠0->(pM n).reverse.flatten=aj n:=by
 intro n
 induction n using Nat.strongRecOn with
 |_ n ih=>
  intro h
  rw[OT h]
  by_cases h0:n/1000000000000000000=0
  ·rw[aJ h0,h0,OS];simp
  ·rw[aq h0,List.reverse_cons,List.flatten_append,ih _ (by omega) h0,Fp h,Fp h0]
   have e:=Z3 (k:=18) (a:=n/1000000000000000000) (b:=n%1000000000000000000) h0 (jO _ (by decide))
   rw[show n/1000000000000000000*10^18+n%1000000000000000000=n by have:=rz n 1000000000000000000;omega]at e
   rw[e];simp
def Zr9{a:Nat}(h:a<=b):(cZ a).length<=(cZ b).length:=nO.1 (mr h (nO.2 (aR _)))
def Ycs:∀{n:Nat},(pM n).length<=(cZ n).length:=by
 intro n
 induction n using Nat.strongRecOn with
 |_ n ih=>
  by_cases h:n=0
  ·subst h;rw[OS];simp
  ·rw[OT h,bf,uN h,iy]
   have h1:=ih (n/1000000000000000000) (by omega)
   have h2:=Zr9 (a:=n/1000000000000000000) (b:=n/10) (by omega)
   simp;omega
def Yh6:∀{n:Nat} {s:aU},s∈pM n->s≠[]:=by
 intro n
 induction n using Nat.strongRecOn with
 |_ n ih=>
  intro s hs
  by_cases h:n=0
  ·subst h;rw[OS]at hs;cases hs
  ·rw[OT h]at hs
   rcases jy.1 hs with hs|hs
   ·subst hs
    split
    ·exact Eo n
    ·intro hc
     have:=Ygx (b:=n%1000000000000000000) (k:=18) (jO _ (by decide))
     rw[hc]at this;simp at this
   ·exact ih _ (by omega) hs
def tA(l:List aU):List (List V):=l.map fun s=>[.str s]
def Ymn{q:V}{Q n n':Nat}{h h':T O}{e:TypeId}(hq:Wn h n q Q)(hQ:Q≠0)(hv:Own 1 e nB h n v (tA gs))(hh:∀j,j<n->h'.get j=h.get j\/(∃o m c y,v=.slice j o m c y))(hn:n<=n'):Wn h' n' q Q:=by
 obtain⟨d,hd⟩:∃d,(aH Q)[0]?=some d:=by rw[lD hQ];exact⟨_,rfl⟩
 rcases hq with⟨hz,_⟩|⟨i,o,cp,c,ee,rw,rfl,q1,q2,q3,q4⟩
 ·rw[lD hQ]at hz;simp[dg]at hz
 ·refine .inr ⟨i,o,cp,c,ee,rw,rfl,ic q1 hn,?_,q3,q4⟩
  rcases hh i q1 with h1|⟨o',m,c',y,rfl⟩
  ·rw[h1];exact q2
  ·exfalso
   rcases hv with⟨_,⟨_,h1⟩|⟨i',h1,_,_,h2⟩⟩
   ·cases h1
   ·simp only[V.slice.injEq]at h1
    obtain⟨rfl,_⟩:=h1
    rw[q2]at h2
    simp only[ak,O.cells.injEq]at h2
    have h3:=q3 0 (by rw[bn,lD hQ];simp)
    rw[eY hd,h2.1]at h3
    have:=fW h3
    obtain⟨l,hl,hx⟩:=List.mem_flatten.1 this
    obtain⟨s,_,rfl⟩:=tV.1 hl
    simp at hx
structure KS (hB:T O) (nB M:Nat) (m:Nat) (r:T V) (st:St):Prop where
 w:aB nB st.w=[]
 ae:ad hB nB st.h st.n
 ex:∃u v gs,r.get 4=some u/\r.get 6=some v/\qh u=some (aH m).length/\(m≠0->Wn st.h st.n u m)/\Own 1 9 nB st.h st.n v (tA gs)/\gs++pM m=pM M
def Yez{hB:T O}{M m:Nat}{r0:T V}{t:V}(hP:jB hB nB)(hM:(cZ M).length<100000000000)(hm:m<=M)(ht:Wn hB nB t 1000000000000000000)(a5:r.get 5=some t)(hf:Fx [(4,4),(6,9),(24,53)] r0 69 ⟨r,69,[]⟩)(s:KS hB nB M m r sT):
  Code A.C none A.jt ⟨r,69,[]⟩ sT (Rd [(4,4),(6,9),(24,53)] r0 69 (fun k r st=>k<=M/\KS hB nB M k r st) m (fun e r st=>e=.exit 0/\KS hB nB M 0 r st)):=by
 obtain⟨H,n1,W⟩:=sT
 obtain⟨hW,hK,u,v,gs,a4,a6,lu,hu,ho,hg⟩:=s
 simp only at hW hK hu ho
 rw[cm]
 by_cases h0:m=0
 ·subst h0
  rw[pB]at lu
  simp[A.jt,hf,a4,lu]
  exact⟨hW,hK,u,v,gs,by simp[a4],by simp[a6],by rw[pB];exact lu,hu,ho,hg⟩
 ·replace hu:=hu h0
  have lp:0<(aH m).length:=by rw[lD h0];simp
  have SD:(aH m).length<1000000000000:=by
   have h1:=CG (n:=m) (k:=(cZ M).length) (nO.2 (Zr9 hm))
   unfold wl at h1
   simp at h1
   omega
  have wh:(aH 1000000000000000000).length<1000000000000:=by rw[ER (by decide) (by decide)];decide
  have uU:gs.length+(pM m).length<=(cZ M).length:=by
   rw[<-iy,hg];exact Ycs
  have CH:=OT h0
  rw[CH,bf]at uU
  simp[A.jt,a4,a5,lu,lp]
  refine au (Zr5 hu (ht.ae hK) (by decide) SD wh) ?_
  rintro _ h2 n2 k2 ⟨q,Ur,rfl,hq,Jo⟩
  have lq:=hq.len
  have lr:=Jo.len
  rw[bn]at lq lr
  obtain⟨R,hR⟩:∃R,m%1000000000000000000=R:=⟨_,rfl⟩
  obtain⟨Q,hQ⟩:∃Q,m/1000000000000000000=Q:=⟨_,rfl⟩
  rw[hR]at lr Jo CH
  rw[hQ]at lq hq CH uU
  have kk:=hK.trans k2
  have wk:=hP.ae kk
  have app:∀(h3:T O) (n3:Nat) (W3:List Nat) (g:aU),ad h2 n2 h3 n3->aB nB W3=[]->g=(if Q=0 then aj m else gS R 18)->
    ∃v' h' w',nI ⟨h3.set n3 (.cells [.str g] 9 true),n3+1,W3⟩ 1 16 9 v (.slice n3 0 1 (some 1) 1)=some (v',⟨h',n3+1+1,w'⟩)/\aB nB w'=[]/\ad hB nB h' (n3+1+1)/\(Q≠0->Wn h' (n3+1+1) q Q)/\Own 1 9 nB h' (n3+1+1) v' (tA (gs++[g]))/\(gs++[g])++pM Q=pM M:=by
   intro h3 n3 W3 g k3 ET ky
   have kk3:=kk.trans k3
   have gJ:=kk3.le
   have CA:=(ho.ae (k2.trans k3)).ae (aG ad.refl (.cells [.str g] 9 true))
   obtain⟨v',h',w',e1,e2,e3,e4,e5⟩:=zH (x:=[.str g]) (u:=.slice n3 0 1 (some 1) 1) (bytes:=16) (w:=W3) CA (by omega) (by decide) rfl (by simp[iQ,St.row,aM]) (by simp[tA];omega)
   refine⟨v',h',w',e1,by rw[e2];exact ET,(kk3.trans (aG ad.refl _)).then e3,fun Bl=>?_,by simpa[tA]using e5,by rw[ky,<-hg,CH,qs];rfl⟩
   have UK:=(hq.ae k3).ae (aG ad.refl (.cells [.str g] 9 true))
   refine Ymn UK Bl CA (fun j hj=>?_) (wC _)
   rcases e4 j with h1|h1|h1
   ·exact .inl h1
   ·omega
   ·exact .inr h1
  by_cases EZ:R=0
  ·have Bl:Q≠0:=by omega
   have Vh:0<(aH Q).length:=by rw[lD Bl];simp
   have Vi:(0:Int)<((aH Q).length:Int):=by omega
   have ky:[48,48,48,48,48,48,48,48,48,48,48,48,48,48,48,48,48,48]=(if Q=0 then aj m else gS R 18):=by rw[aq Bl,EZ];unfold gS;rw[qN];rfl
   rw[EZ,pB]at lr
   simp[lq,lr,Vh]
   refine au (Zqx (k:=17) (by decide)) ?_
   rintro _ h3 n3 k3 rfl
   obtain⟨v',h',w',e1,e2,e3,e4,e5,e6⟩:=app h3 n3 W _ k3 hW ky
   simp[hf,a6,iC,ag,e1]
   exact⟨Q,by omega,by omega,⟨e2,e3,q,v',_,by simp,by simp,lq,e4,e5,e6⟩⟩
  ·have hRw:aH R=[R]:=ER (by unfold B;omega) EZ
   obtain⟨i,o,c,e,wr,p1,p2,p3,p4⟩:=Jo.at (eY (l:=aH R) (j:=0) (n:=R) (by rw[hRw];rfl))
   rw[hRw]at lr
   have lr:qh Ur=some 1:=lr
   have Vj:=Fp EZ
   rw[ri]at p4
   by_cases Bl:Q=0
   ·have ky:aj R=(if Q=0 then aj m else gS R 18):=by rw[aJ Bl];congr 1;omega
    have lqz:(aH Q).length=0:=by rw[Bl,pB];rfl
    rw[lqz]at lq
    simp[lr,p1,p3,p4]
    refine au (Yh8 (x:=R) (by omega) wk) ?_
    rintro _ h3 n3 k3 rfl
    obtain⟨v',h',w',e1,e2,e3,e4,e5,e6⟩:=app h3 n3 W _ k3 hW ky
    simp[hf,a6,lq,ag,e1]
    exact⟨Q,by omega,by omega,⟨e2,e3,q,v',_,by simp,by simp,by rw[lqz];exact lq,e4,e5,e6⟩⟩
   ·have Vh:0<(aH Q).length:=by rw[lD Bl];simp
    have Vi:(0:Int)<((aH Q).length:Int):=by omega
    have zaB:(cZ R).length<=18:=nO.1 (by omega)
    have ky:List.replicate (18-(aj R).length) 48++aj R=(if Q=0 then aj m else gS R 18):=by rw[aq Bl,Vj];rfl
    have hs:(18:Int)-((aj R).length:Int)=((18-(aj R).length:Nat):Int):=by rw[Vj];omega
    have xd:¬(9223372036854775807:Int)<(((List.replicate (18-(aj R).length) (48:UInt8)).length+(aj R).length:Nat):Int):=by rw[List.length_replicate,Vj];omega
    simp[lr,p1,p3,p4]
    refine au (Yh8 (x:=R) (by omega) wk) ?_
    rintro _ h3 n3 k3 rfl
    generalize aj R=S at*
    simp(disch:=omega) [lq,Vh,hs]
    refine au (Zqx (k:=18-S.length) (by omega)) ?_
    rintro _ h4 n4 k4 rfl
    obtain⟨v',h',w',e1,e2,e3,e4,e5,e6⟩:=app h4 n4 W _ (k3.trans k4) hW ky
    generalize List.replicate (18-S.length) (48:UInt8)=Z at*
    have dJ:IntKind.max .i64=9223372036854775807:=rfl
    have Vk:¬(9223372036854775807:Int)<(Z.length:Int)+(S.length:Int):=by omega
    simp[hf,a6,iC,dJ,Vk,ag,e1]
    exact⟨Q,by omega,by omega,⟨e2,e3,q,v',_,by simp,by simp,lq,e4,e5,e6⟩⟩
structure KT (hb:T O) (n0 b:Nat) (gs:List aU) (pre:aU) (k:Nat) (r:T V) (st:St):Prop where
 hk:k<=gs.length
 tu:r.get 11=some (.int .i64 ((k:Int)-1))
 w:aB n0 st.w=[]
 KP:∀i,i<b->st.h.get i=hb.get i
 bd:Bd st.h st.n b (pre++(gs.drop k).reverse.flatten)
def Ygs(gs:List aU)(k:Nat):gs.reverse.flatten=(gs.drop k).reverse.flatten++(gs.take k).reverse.flatten:=by
 conv=>lhs;rw[<-yW k gs]
 rw[List.reverse_append,List.flatten_append]
def Yev{j:Nat}{s:aU}(h:gs[j]?=some s):(tA gs).flatten[j]?=some (.str s):=by
 have:∀gs:List aU,(tA gs).flatten=gs.map V.str:=by
  intro gs
  induction gs with
  |nil=>rfl
  |cons a gs ih=>show V.str a::(tA gs).flatten=_;rw[ih];rfl
 rw[this,ko,h];rfl
def Yey{hb:T O}{nB n0 b k:Nat}{gs:List aU}{pre:aU}{v:V}{r r0:T V}{sT:St}(uK:n0<=b)(hl:pre.length+gs.reverse.flatten.length<1000000000000)(uU:gs.length<1000000000000)(bK:∀s∈gs,s≠[])(ho:Own 1 9 nB hb b v (tA gs))(a6:r.get 6=some v)(EH:r.get 10=some (.ptr b 0))(hf:Fx [(11,11),(59,67)] r0 69 ⟨r,69,[]⟩)(s:KT hb n0 b gs pre k r sT):
  Code A.C none A.js ⟨r,69,[]⟩ sT (Rd [(11,11),(59,67)] r0 69 (KT hb n0 b gs pre) k (fun e r st=>e=.exit 2/\KT hb n0 b gs pre 0 r st)):=by
 obtain⟨H,n1,W⟩:=sT
 obtain⟨hk,zR,hW,hO,Hp⟩:=s
 simp only at hW hO Hp
 rw[cm]
 cases k with
 |zero=>
  have KU:r.get 11=some (.int .i64 (-1)):=zR
  simp[A.js,hf,KU]
  exact⟨hk,by simp[KU],hW,hO,Hp⟩
 |succ j=>
  have e1:((j+1:Nat):Int)-1=(j:Int):=by omega
  rw[e1]at zR
  obtain⟨g,hg⟩:∃g,gs[j]?=some g:=⟨_,dT (by omega)⟩
  have Bf:=Yev hg
  have lv:=ho.len
  have lg:(tA gs).length=gs.length:=by simp[tA]
  rw[lg]at lv
  have zf:(j:Int)<(gs.length:Int):=by omega
  rcases ho with⟨_,⟨h1,_⟩|⟨i,rfl,h2,h3,h4⟩⟩
  ·exfalso
   have:gs=[]:=by simpa[tA]using h1
   subst this;simp at hk
  ·have aE:=(hO i h3).trans h4
   have Fs:(gs.drop j).reverse.flatten=(gs.drop (j+1)).reverse.flatten++g:=by
    have:gs.drop j=g::gs.drop (j+1):=by
     rw[Ds (by omega)]
     congr 1
     rw[dT (by omega)]at hg
     simpa using hg
    rw[this,List.reverse_cons,List.flatten_append];simp
   have Vl:=congrArg List.length (Ygs gs j)
   rw[Fs,iy,iy]at Vl
   simp[A.js,a6,EH,zR,aE,Bf,zf,lg]
   refine zK (Zzw uK Hp (bK g (fW hg)) (by rw[iy];omega)) ?_
   rintro _ ⟨H2,n2,W2⟩ ⟨hn,ft,uF,oM⟩
   simp only at hn ft uF oM
   subst hn
   simp(disch:=first|(simp;done)|omega|(simp only[bn,bW,bf];omega)|rfl) [hf,zR]
   refine⟨j,by omega,by omega,by simp,by rw[ft,hW],fun i hi=>(uF i hi).trans (hO i hi),?_⟩
   rw[Fs,<-qs];exact oM
def Yab{hb:T O}{n0:Nat}{pre:aU}(uK:n0<=b)(hl:pre.length+gs.reverse.flatten.length<1000000000000)(uU:gs.length<1000000000000)(bK:∀s∈gs,s≠[])(OU:pre++gs.reverse.flatten≠[])(ho:Own 1 9 nB hb b v (tA gs))(a6:r.get 6=some v)(EH:r.get 10=some (.ptr b 0))
  (hW:aB n0 sT.w=[]) (hO:∀i,i<b->sT.h.get i=hb.get i) (Hp:Bd sT.h sT.n b pre):
  Code A.C none A.pL ⟨r,69,[]⟩ sT (fun e fr st=>e=.ret/\∃r',fr=⟨r',69,[]⟩/\r'.get 2=some (.str (pre++gs.reverse.flatten))/\aB n0 st.w=[]/\(∀i,i<b->st.h.get i=hb.get i)/\b<=st.n):=by
 obtain⟨H,n1,W⟩:=sT
 simp only at hW hO Hp
 rw[cm]
 have lv:=ho.len
 rw[show (tA gs).length=gs.length by simp[tA]]at lv
 simp(disch:=omega) [A.pL,a6,lv]
 refine cX [(11,11),(59,67)] (fun e r st=>e=.exit 2/\KT hb n0 b gs pre 0 r st) (KT hb n0 b gs pre) gs.length ?_ ?_ ?_
 ·exact⟨aR _,by simp,hW,hO,by simpa using Hp⟩
 ·intro k r' ax hr hf J
  exact Yey uK hl uU bK ho (by rw[hr 6 (by decide)];simp[a6]) (by rw[hr 10 (by decide)];simp[EH]) hf J
 ·rintro e r' ⟨H2,n2,W2⟩ hr ⟨rfl,hk,_,ft,uF,oM⟩
  simp only at ft uF oM
  rw[yO]at oM
  have hb3:=oM.1
  have Vm:r'.get 10=some (.ptr b 0):=by rw[hr 10 (by decide)];simp[EH]
  simp[Vm]
  refine zK (Yly uK oM OU (by rw[iy];omega)) ?_
  rintro _ ⟨H3,n3,W3⟩ ⟨rfl,hn,ET,Ko⟩
  simp only at hn ET Ko
  subst hn
  simp[]
  exact⟨by rw[ET,ft],fun i hi=>(Ko i hi).trans (uF i hi),by omega⟩
def OV{x:V}{z:Int}{h:T O}{N:Nat}(hx:In h N x z)(hP:jB h N)(hl:(cZ z.natAbs).length<100000000000):Fn A.C 193 [x] h N (fun v h' N'=>v=.str (aK z)):=by
 intro w
 rw[aQ,A.k193 (by simp)]
 rcases id hx with⟨rfl,h1,h2⟩|⟨i0,o0,l0,c0,rfl,hw0,rF⟩
 ·simp[A.b193,aL,aW]
  refine au (Yk2 h1 h2 (hP.ae (aG ad.refl _))) ?_
  rintro _ h3 n3 k3 rfl
  simp[aA]
  exact(aG ad.refl _).trans k3
 ·simp[A.b193,aL,aM,aW]
  refine au (Bb (hx.ae (aG ad.refl (.cells [.int .i64 (vP z),.slice i0 o0 l0 c0 1] 70 true)))) ?_
  rintro _ h1 n1 k1 ⟨u,rfl,hu⟩
  obtain⟨M,hM⟩:∃M,z.natAbs=M:=⟨_,rfl⟩
  rw[hM]at hu hl
  have hM0:M≠0:=by omega
  have lu:=hu.len
  rw[bn]at lu
  have kN:=(aG (ad.refl (h:=h) (n:=N)) (.cells [.int .i64 (vP z),.slice i0 o0 l0 c0 1] 70 true)).trans k1
  have kT:=aG (ad.refl (h:=h1) (n:=n1)) (.cells [.int .u64 1000000000000000000] 212 true)
  have hT:Wn (h1.set n1 (.cells [.int .u64 1000000000000000000] 212 true)) (n1+1) (.slice n1 0 1 (some 1) 1) 1000000000000000000:=by
   unfold Wn
   rw[ER (by decide) (by decide)]
   exact Sl.row (e:=212) (rw:=true) (L:=1) (by omega) (by simp[dg]) (by simp) (by simp)
  simp[ag]
  generalize fV:h1.set n1 (.cells [.int .u64 1000000000000000000] 212 true)=hB at*
  have OW:=(hP.ae kN).ae kT
  refine cX [(4,4),(6,9),(24,53)] (fun e r st=>e=.exit 0/\KS hB (n1+1) M 0 r st) (fun k r st=>k<=M/\KS hB (n1+1) M k r st) M ?_ ?_ ?_
  ·exact⟨aR _,by simp[aB],ad.refl,u,.aa,[],by simp,by simp,lu,fun _=>hu.ae kT,Own.nil,rfl⟩
  ·rintro m r st hr hf ⟨hm,J⟩
   exact Yez OW hl hm hT (by rw[hr 5 (by decide)];simp) hf J
  ·rintro e r ⟨H,n2,W⟩ hr ⟨rfl,hW,hK,u2,v,gs,a4,a6,_,_,ho,hg⟩
   rw[OS,yX]at hg
   subst hg
   simp only at hW hK ho
   have gJ:=hK.le
   have vT:=kN.le
   have a3:r.get 3=some (.bool (decide (z<0))):=by rw[hr 3 (by decide)];simp
   have kb:=Yk8 hM0
   have uU:(pM M).length<1000000000000:=mr Ycs (by omega)
   have lA:(aj M).length<100000000000:=by rw[Fp hM0];exact hl
   have wL:Bd (H.set n2 (.cells [.bF,.aa] 262 true)) (n2+1) n2 []:=⟨q9 _,.bF,.aa,by rw[T.ai,aJ rfl],.inl rfl,.inl ⟨rfl,rfl⟩⟩
   by_cases hz:z<0
   ·have zU:aK z=[45]++(pM M).reverse.flatten:=by unfold aK;rw[aJ hz,hM,kb];rfl
    simp[a3,hz]
    refine zK (Zzw (n0:=n1+1) gJ wL (t:=[45]) (by decide) (by decide)) ?_
    rintro _ ⟨H2,n3,W2⟩ ⟨hn,ft,uF,oM⟩
    simp only at hn ft uF oM
    subst hn
    simp[]
    refine nP (Yab (nB:=n1+1) (n0:=n1+1) (b:=n2) (hb:=H) (gs:=pM M) (pre:=[45]) (v:=v) gJ (by rw[kb];simp;omega) uU (fun s hs=>Yh6 hs) (by simp) ho (by simp[a6]) (by simp) (by rw[ft,hW]) (fun i hi=>by rw[uF i hi,T.ai,aq (by omega)]) oM) ?_
    rintro e fr ⟨H6,n6,W6⟩ ⟨rfl,r6,rfl,g2,g3,g4,g5⟩
    simp only at g3 g4 g5
    have Vn:=Hi (show N<=n1+1 by omega) g3
    simp[g2,aA,Vn,zU]
    exact⟨by omega,fun i hi=>by rw[g4 i (by omega),hK.get i (by omega),<-fV,T.ai,aq (by omega),kN.get i hi]⟩
   ·have zU:aK z=[]++(pM M).reverse.flatten:=by unfold aK;rw[aq hz,hM,kb];rfl
    simp[a3,hz]
    refine nP (Yab (nB:=n1+1) (n0:=n1+1) (b:=n2) (hb:=H) (gs:=pM M) (pre:=[]) (v:=v) gJ (by rw[kb];simp;omega) uU (fun s hs=>Yh6 hs) (by rw[List.nil_append,kb];exact Eo M) ho (by simp[a6]) (by simp) hW (fun i hi=>by rw[T.ai,aq (by omega)]) wL) ?_
    rintro e fr ⟨H6,n6,W6⟩ ⟨rfl,r6,rfl,g2,g3,g4,g5⟩
    simp only at g3 g4 g5
    have Vn:=Hi (show N<=n1+1 by omega) g3
    simp[g2,aA,Vn,zU]
    exact⟨by omega,fun i hi=>by rw[g4 i (by omega),hK.get i (by omega),<-fV,T.ai,aq (by omega),kN.get i hi]⟩
variable {N:Nat} {a b z:Int} {h:T O} {x:V}
def A.b68:=A.q Tryz.f68
def A.k68:=@A.kk 68 6 [.cell 2 (some 4)] A.b68 (by kernel_rfl) rfl
def A.b27:=A.q Tryz.f27
def A.k27:=@A.kk 27 6 [.cell 2 (some 4)] A.b27 (by kernel_rfl) rfl
def A.b128:=A.q Tryz.f128
def A.k128:=@A.kk 128 13 [.tmp 2] A.b128 (by kernel_rfl) rfl
def A.Ft:=A.q Tryz.f122
def A.lS:=A.qt A.Ft [] [] [1,1,1]
def A.gV:=(fun y0=>A.qt A.Ft [] [([1,1,1],y0)] [1,1]) A.lS
def A.b122:=(fun y0=>A.qt A.Ft [] [([1,1],y0)] []) A.gV
def A.k122:=@A.kk 122 34 [.cell 4 (some 4)] A.b122 (by kernel_rfl) rfl
def Fc(h:T O)(N:Nat)(x:V)(q:Rat):Prop:=∃n1 u1 n2 u2,x=.agg [.int .i64 n1,u1,.int .i64 n2,u2]/\In h N (.agg [.int .i64 n1,u1]) q.num/\In h N (.agg [.int .i64 n2,u2]) (q.den:Nat)
def Fc.ae{h':T O}{N':Nat}{q:Rat}(s:Fc h N x q)(k:ad h N h' N'):Fc h' N' x q:=by
 obtain⟨n1,u1,n2,u2,rfl,s1,s2⟩:=s
 exact⟨n1,u1,n2,u2,rfl,s1.ae k,s2.ae k⟩
def cP{n:Int}{u:V}(s:In h N (.agg [.int .i64 n,u]) z):V.one u=true:=by
 obtain⟨n',u',e,h1⟩:=s.cells
 simp at e
 rw[e.2];exact h1
def Vo(hx:In h N x z):Fn A.C 68 [x] h N (fun v h' N'=>Fc h' N' v (z:Rat)):=by
 intro w
 rw[aQ,A.k68 (by simp)]
 obtain⟨n,u,rfl,hu⟩:=hx.cells
 have mR:=hu
 unfold V.one at mR
 simp[A.b68,aL,aM,mR]
 refine au EO ?_
 rintro _ h1 n1 k1 rfl
 have vT:=k1.le
 have g0:=k1.get (N+1) (by omega)
 simp at g0
 simp[aL,aM,ag,bS,g0,mR,cD.cG,aA]
 have kk:=(((aG (aG ad.refl (.cells [.int .i64 n,u] 70 true)) (.cells [.int .i64 0,.aa,.int .i64 0,.aa] 72 true)).trans k1).set (h:=h) (n:=N) (i:=N+1) (o:=.cells [.int .i64 n,u,.int .i64 1,.aa] 72 true) (by omega))
 refine⟨?_,kk,n,u,1,.aa,rfl,?_,?_⟩
 ·split<;>simp[aB]
 ·exact hx.ae kk
 ·exact In.small (by decide) (by decide)
def BB(h1: -9223372036854775808<=z)(h2:z<9223372036854775808){h:T O}{N:Nat}:Fn A.C 27 [.int .i64 z] h N (fun v h' N'=>Fc h' N' v (z:Rat)):=by
 intro w
 rw[aQ,A.k27 (by simp)]
 simp[A.b27]
 refine au EO ?_
 rintro _ h3 n3 k3 rfl
 simp[]
 refine au (Vo (In.small h1 h2)) ?_
 rintro _ h4 n4 k4 ⟨n1,u1,n2,u2,rfl,s1,s2⟩
 have vT:=k3.le
 have tj:=k4.le
 have g0:=(k4.get N (by omega)).trans (k3.get N (by omega))
 simp at g0
 have o1:=cP s1
 have o2:=cP s2
 unfold V.one at o1 o2
 simp[aL,aM,ag,bS,g0,o1,o2,aA]
 have kk:=(((aG (ad.refl (h:=h) (n:=N)) (.cells [.int .i64 0,.aa,.int .i64 0,.aa] 72 true)).trans k3).trans k4).set (h:=h) (n:=N) (i:=N) (o:=.cells [.int .i64 n1,u1,.int .i64 n2,u2] 72 true) (by omega)
 have g1:=(k4.get N (by omega)).trans (k3.get N (by omega))
 rw[T.ai,aJ rfl]at g1
 have hn:∀x∈[V.int .i64 0,V.aa,V.int .i64 0,V.aa],∀m,x≠.int .u64 m:=by
  intro x hx m hc
  simp at hx
  rcases hx with rfl|rfl|rfl|rfl<;>cases hc
 exact⟨kk,n1,u1,n2,u2,rfl,s1.aC g1 hn rfl,s2.aC g1 hn rfl⟩
def ki:∀x∈[V.int .i64 0,V.aa,V.int .i64 0,V.aa],∀m,x≠.int .u64 m:=by
 intro x hx m hc
 simp at hx
 rcases hx with rfl|rfl|rfl|rfl<;>cases hc
structure OX (H:T O) (N:Nat) (q:Rat) (st:St):Prop where
 w:aB N st.w=[]
 old:∀i,i<N->st.h.get i=H.get i
 le:N+3<=st.n
 ex:∃n1 u1 n2 u2,st.h.get (N+2)=some (.cells [.int .i64 n1,u1,.int .i64 n2,u2] 72 true)/\Fc st.h st.n (.agg [.int .i64 n1,u1,.int .i64 n2,u2]) q
def Yr3{H:T O}{n:Nat}{W:List Nat}{r:T V}{n1 n2:Int}{u1 u2:V}(hn:N+3<=n)(hW:aB N W=[])(g1:H.get N=some (.cells [.int .i64 n1,u1] 70 true))(g2:H.get (N+1)=some (.cells [.int .i64 n2,u2] 70 true))(g3:H.get (N+2)=some (.cells [.int .i64 0,.aa,.int .i64 0,.aa] 72 true))
  (hx:In H n (.agg [.int .i64 n1,u1]) a) (hy:In H n (.agg [.int .i64 n2,u2]) b) (hb:0<b) (la:wl a<10000000000) (lb:wl b<10000000000) (a2:r.get 2=some (.ptr N 0)) (a3:r.get 3=some (.ptr (N+1) 0)) (a4:r.get 4=some (.ptr (N+2) 0)):
  Code A.C none A.lS ⟨r,34,[]⟩ ⟨H,n,W⟩ (fun e fr st=>e=.ret/\∃r',fr=⟨r',34,[]⟩/\r'.get 4=some (.ptr (N+2) 0)/\OX H N (Rat.divInt a b) st):=by
 rw[cm]
 have o1:=cP hx
 have o2:=cP hy
 unfold V.one at o1 o2
 simp[A.lS,a2,a3,g1,g2,aL,aM]
 refine au (Yh7 hx hy la lb) ?_
 rintro _ h1 m1 k1 hg
 obtain⟨ng,ug,rfl,hug⟩:=hg.cells
 have KV:=hug
 unfold V.one at KV
 have vT:=k1.le
 have g1':=(k1.get N (by omega)).trans g1
 have OY:=(k1.get (N+1) (by omega)).trans g2
 have g3':=(k1.get (N+2) (by omega)).trans g3
 have d1:¬N=m1:=by omega
 have d2:¬N+1=m1:=by omega
 have d3:¬N+2=m1:=by omega
 have e1:N<m1+1:=by omega
 have e2:N+1<m1+1:=by omega
 have e3:N+2<m1+1:=by omega
 have CH:0<Int.gcd a b:=Int.gcd_pos_of_ne_zero_right a (by omega)
 obtain⟨G,hG⟩:∃G,Int.gcd a b=G:=⟨_,rfl⟩
 rw[hG]at CH hg
 have hGb:(G:Int)<=b:=by
  rw[<-hG]
  exact Int.le_of_dvd hb (Int.gcd_dvd_right ..)
 have lg:wl (G:Int)<10000000000:=mr (Hn (by omega)) lb
 have kS:ad h1 m1 ((h1.set m1 (.cells [.int .i64 0,.aa] 70 true)).set m1 (.cells [.int .i64 ng,ug] 70 true)) (m1+1):=(aG ad.refl _).set (aR _)
 simp[a2,g1',d1,aL,aM,ag,bS,KV,e1]
 refine au (Yht ((hx.ae k1).ae kS) (hg.ae kS) (by omega) la lg) ?_
 rintro _ h2 m2 k2 pX
 obtain⟨n3,u3,rfl,Hq⟩:=pX.cells
 have o3:=Hq
 unfold V.one at o3
 have kT:=(k1.trans kS).trans k2
 have gF:=kT.le
 have f1:=(kT.get N (by omega)).trans g1
 have f2:=(kT.get (N+1) (by omega)).trans g2
 have f3:=(kT.get (N+2) (by omega)).trans g3
 have f5:=k2.get m1 (by omega)
 rw[T.ai,aJ rfl]at f5
 have mm:=k2.le
 have e4:N+1<m2:=by omega
 have e5:m1<m2:=by omega
 have e6:N+2<m2:=by omega
 simp[a3,f2,f5,aL,aM,e4,e5]
 refine au (Yht ((hy.ae kT)) ((hg.ae kS).ae k2) (by omega) lb lg) ?_
 rintro _ h3 m3 k3 jZ
 obtain⟨n4,u4,rfl,KQ⟩:=jZ.cells
 have o4:=KQ
 unfold V.one at o4
 have kU:=kT.trans k3
 have tj:=kU.le
 have f6:=(kU.get (N+2) (by omega)).trans g3
 have e7:N+2<m3:=by omega
 simp[a4,f6,ag,bS,o3,o4,e7,cD.cG]
 have Vp:(Rat.divInt a b).num=a/(G:Int):=by
  rw[Rat.num_divInt,Int.sign_eq_one_of_pos hb,Int.one_mul,Int.gcd_comm,hG]
 have Vq:((Rat.divInt a b).den:Int)=b/(G:Int):=by
  rw[Rat.den_divInt,aq (by omega),Int.gcd_comm,hG,Int.natCast_ediv,Int.natAbs_of_nonneg (by omega)]
 have mw:¬N+2<N:=by omega
 have n3':¬m1<N:=by omega
 refine⟨by simp[aB,hW,mw,n3'],fun i hi=>?_,by show N+3<=m3;omega,n3,u3,n4,u4,by show T.get (T.set _ _ _) _=_;rw[T.ai,aJ rfl],n3,u3,n4,u4,rfl,?_,?_⟩
 ·show T.get (T.set _ _ _) _=_
  rw[T.ai,aq (by omega),kU.get i (by omega)]
 ·rw[Vp];exact(pX.ae k3).aC f6 ki rfl
 ·rw[Vq];exact jZ.aC f6 ki rfl
def Yr2{H:T O}{n:Nat}{W:List Nat}{r:T V}{n1 n2:Int}{u1 u2:V}(hn:N+3<=n)(hW:aB N W=[])(g1:H.get N=some (.cells [.int .i64 n1,u1] 70 true))(g2:H.get (N+1)=some (.cells [.int .i64 n2,u2] 70 true))(g3:H.get (N+2)=some (.cells [.int .i64 0,.aa,.int .i64 0,.aa] 72 true))
  (hx:In H n (.agg [.int .i64 n1,u1]) a) (hy:In H n (.agg [.int .i64 n2,u2]) b) (hb:0<b) (la:wl a<10000000000) (lb:wl b<10000000000) (a2:r.get 2=some (.ptr N 0)) (a3:r.get 3=some (.ptr (N+1) 0)) (a4:r.get 4=some (.ptr (N+2) 0)):
  Code A.C none A.gV ⟨r,34,[]⟩ ⟨H,n,W⟩ (fun e fr st=>e=.ret/\∃r',fr=⟨r',34,[]⟩/\r'.get 4=some (.ptr (N+2) 0)/\OX H N (Rat.divInt a b) st):=by
 rw[cm]
 have o1:=cP hx
 have o2:=cP hy
 unfold V.one at o1 o2
 have fin:∀r':T V,r'.get 2=some (.ptr N 0)->r'.get 3=some (.ptr (N+1) 0)->r'.get 4=some (.ptr (N+2) 0)->bD A.C [] (eR (A.C.code none A.lS ⟨r',34,[]⟩ ⟨H,n,W⟩)) (Tp (fun e fr st=>e=.ret/\∃r',fr=⟨r',34,[]⟩/\r'.get 4=some (.ptr (N+2) 0)/\OX H N (Rat.divInt a b) st)):=fun r' b2 b3 b4=>cm.1 (Yr3 hn hW g1 g2 g3 hx hy hb la lb b2 b3 b4)
 have tR:=hy
 rcases tR with⟨e0,_,_⟩|⟨i,o,l,c,e0,_,_⟩
 ·simp only[V.agg.injEq,iB,V.int.injEq,true_and,and_true]at e0
  obtain⟨rfl,rfl⟩:=e0
  by_cases c1:n2=1
  ·subst c1
   simp[A.gV,a2,a3,a4,g1,g2,g3,aL,aM,ag,aW,bS,o1]
   have mw:¬N+2<N:=by omega
   refine⟨by simp[aB,hW,mw],fun i hi=>?_,hn,n1,u1,1,.aa,by show T.get (T.set _ _ _) _=_;rw[T.ai,aJ rfl],n1,u1,1,.aa,rfl,?_,?_⟩
   ·show T.get (T.set _ _ _) _=_
    rw[T.ai,aq (by omega)]
   ·rw[show (Rat.divInt a 1).num=a by rw[Rat.num_divInt];simp];exact hx.aC g3 ki rfl
   ·rw[show ((Rat.divInt a 1).den:Int)=1 by rw[Rat.den_divInt];simp];exact In.small (by decide) (by decide)
  ·simp[A.gV,a3,g2,aL,aW,c1]
   exact fin _ (by simp[a2]) (by simp[a3]) (by simp[a4])
 ·simp only[V.agg.injEq,iB,V.int.injEq,true_and,and_true]at e0
  obtain⟨rfl,rfl⟩:=e0
  simp[A.gV,a3,g2,aL,aW]
  exact fin _ (by simp[a2]) (by simp[a3]) (by simp[a4])
def Qw{y:V}(hx:In h N x a)(hy:In h N y b)(hb:b≠0)(la:wl a<10000000000)(lb:wl b<10000000000):Fn A.C 122 [x,y] h N (fun v h' n'=>Fc h' n' v (Rat.divInt a b)):=by
 intro w
 rw[aQ,A.k122 (by simp)]
 obtain⟨n1,u1,rfl,yc⟩:=hx.cells
 obtain⟨n2,u2,rfl,eX⟩:=hy.cells
 have o1:=yc
 have o2:=eX
 unfold V.one at o1 o2
 have kB:ad h N (((h.set N (.cells [.int .i64 n1,u1] 70 true)).set (N+1) (.cells [.int .i64 n2,u2] 70 true)).set (N+2) (.cells [.int .i64 0,.aa,.int .i64 0,.aa] 72 true)) (N+3):=aG (aG (aG ad.refl _) _) _
 have done:∀(r:T V) (h1:T O) (m:Nat) (W1:List Nat) (a' b' rj mw:Int) (Vr Vs:V),N+3<=m->aB N W1=[]->(∀i,i<N->h1.get i=h.get i)->h1.get N=some (.cells [.int .i64 rj,Vr] 70 true)->h1.get (N+1)=some (.cells [.int .i64 mw,Vs] 70 true)->h1.get (N+2)=some (.cells [.int .i64 0,.aa,.int .i64 0,.aa] 72 true)->
   In h1 m (.agg [.int .i64 rj,Vr]) a'->In h1 m (.agg [.int .i64 mw,Vs]) b'->0<b'->wl a'<10000000000->wl b'<10000000000->Rat.divInt a' b'=Rat.divInt a b->r.get 2=some (.ptr N 0)->r.get 3=some (.ptr (N+1) 0)->r.get 4=some (.ptr (N+2) 0)->
   bD A.C [.fin [.cell 4 (some 4)] ⟨h,N,w⟩] (eR (A.C.code none A.gV ⟨r,34,[]⟩ ⟨h1,m,W1⟩)) (AU (aA (fun v h' n'=>Fc h' n' v (Rat.divInt a b)) h N w)):=by
  intro r h1 m W1 a' b' rj mw Vr Vs hm nK hO g1 g2 g3 i1 i2 uw CE OH hq b2 b3 b4
  refine nP (Yr2 hm nK g1 g2 g3 i1 i2 uw CE OH b2 b3 b4) ?_
  rintro e fr ⟨H6,n6,W6⟩ ⟨rfl,r6,rfl,c4,q1,q2,q3,m1,v1,m2,v2,q4,q5⟩
  simp only at q1 q2 q3 q4 q5
  rw[hq]at q5
  simp[c4,q4,aL,aM,aA,q1]
  exact⟨⟨by omega,fun i hi=>(q2 i hi).trans (hO i hi)⟩,q5⟩
 simp[A.b122,aL,aM,o1,o2]
 generalize fV:((h.set N (.cells [.int .i64 n1,u1] 70 true)).set (N+1) (.cells [.int .i64 n2,u2] 70 true)).set (N+2) (.cells [.int .i64 0,.aa,.int .i64 0,.aa] 72 true)=hB at*
 have b1:hB.get N=some (.cells [.int .i64 n1,u1] 70 true):=by rw[<-fV];simp
 have b2:hB.get (N+1)=some (.cells [.int .i64 n2,u2] 70 true):=by rw[<-fV];simp
 have b3:hB.get (N+2)=some (.cells [.int .i64 0,.aa,.int .i64 0,.aa] 72 true):=by rw[<-fV];simp
 refine au (EP (hy.ae kB)) ?_
 rintro _ h1 m1 k1 rfl
 have kk:=kB.trans k1
 have vT:=kk.le
 have eS:=k1.le
 have f1:=(k1.get N (by omega)).trans b1
 have f2:=(k1.get (N+1) (by omega)).trans b2
 have f3:=(k1.get (N+2) (by omega)).trans b3
 by_cases hbn:b<0
 ·have s1:cY b= -1:=by unfold cY;rw[aJ hbn]
  have l1:N<m1:=by omega
  simp[s1,f1,l1,aL,aM]
  refine au (FZ (hx.ae kk) (by omega)) ?_
  rintro _ h2 m2 k2 q1
  obtain⟨n3,u3,rfl,Hq⟩:=q1.cells
  have o3:=Hq
  unfold V.one at o3
  have gF:=k2.le
  have f4:=(k2.get N (by omega)).trans f1
  have f5:=(k2.get (N+1) (by omega)).trans f2
  have f6:=(k2.get (N+2) (by omega)).trans f3
  have l2:N+1<m2:=by omega
  simp[f5,l2,aL,aM]
  refine au (FZ ((hy.ae kk).ae k2) (by omega)) ?_
  rintro _ h3 m3 k3 q2
  obtain⟨n4,u4,rfl,KQ⟩:=q2.cells
  have o4:=KQ
  unfold V.one at o4
  have mm:=k3.le
  have f7:=(k3.get N (by omega)).trans f4
  have f8:=(k3.get (N+1) (by omega)).trans f5
  have f9:=(k3.get (N+2) (by omega)).trans f6
  have l3:N+1<m3:=by omega
  have l4:N<m3:=by omega
  simp[f7,f8,l3,l4,ag,bS,o3,o4,cD.cG]
  have i1:=(q1.ae k3).aC (c1:=[.int .i64 n3,u3]) (e1:=70) (w1:=true) f7 hx.nu rfl
  have i2:=q2.aC (c1:=[.int .i64 n3,u3]) (e1:=70) (w1:=true) f7 hx.nu rfl
  have f8':((h3.set N (.cells [.int .i64 n3,u3] 70 true)):T O).get (N+1)=some (.cells [.int .i64 n2,u2] 70 true):=by rw[T.ai,aq (by omega)];exact f8
  have j1:=i1.aC (c1:=[.int .i64 n4,u4]) (e1:=70) (w1:=true) f8' hy.nu rfl
  have j2:=i2.aC (c1:=[.int .i64 n4,u4]) (e1:=70) (w1:=true) f8' hy.nu rfl
  have l5:¬N+1<N:=by omega
  exact done _ _ _ _ (-a) (-b) n3 n4 u3 u4 (by omega) (by simp[aB,l5]) (fun i hi=>by rw[T.ai,aq (by omega),T.ai,aq (by omega),k3.get i (by omega),k2.get i (by omega),kk.get i hi]) (by rw[T.ai,aq (by omega),T.ai,aJ rfl]) (by rw[T.ai,aJ rfl]) (by rw[T.ai,aq (by omega),T.ai,aq (by omega)];exact f9) j1 j2 (by omega) (by rw[HO];exact la) (by rw[HO];exact lb) (Rat.neg_divInt_neg a b) (by simp) (by simp) (by simp)
 ·have s1:cY b=1:=by unfold cY;rw[aq hbn,aq hb]
  simp[s1]
  exact done _ _ _ _ a b n1 n2 u1 u2 (by omega) (by simp[aB]) (fun i hi=>kk.get i hi) f1 f2 f3 (hx.ae kk) (hy.ae kk) (by omega) la lb rfl (by simp) (by simp) (by simp)
def A.b63:=A.q Tryz.f63
def A.k63:=@A.kk 63 16 [.cell 4 (some 4)] A.b63 (by kernel_rfl) rfl
def HQ{x y:V}{p q:Rat}{h:T O}{N:Nat}(hx:Fc h N x p)(hy:Fc h N y q)(l1:wl p.num<1000000000)(l2:wl (p.den:Nat)<1000000000)(l3:wl q.num<1000000000)(l4:wl (q.den:Nat)<1000000000):Fn A.C 63 [x,y] h N (fun v h' n'=>Fc h' n' v (p*q)):=by
 intro w
 rw[aQ,A.k63 (by simp)]
 obtain⟨n1,u1,n2,u2,rfl,s1,s2⟩:=hx
 obtain⟨n3,u3,n4,u4,rfl,s3,s4⟩:=hy
 have o1:=cP s1
 have o2:=cP s2
 have o3:=cP s3
 have o4:=cP s4
 unfold V.one at o1 o2 o3 o4
 have kB:ad h N (((h.set N (.cells [.int .i64 n1,u1,.int .i64 n2,u2] 72 true)).set (N+1) (.cells [.int .i64 n3,u3,.int .i64 n4,u4] 72 true)).set (N+2) (.cells [.int .i64 0,.aa,.int .i64 0,.aa] 72 true)) (N+3):=aG (aG (aG ad.refl _) _) _
 simp[A.b63,aL,aM,o1,o2,o3,o4]
 generalize fV:((h.set N (.cells [.int .i64 n1,u1,.int .i64 n2,u2] 72 true)).set (N+1) (.cells [.int .i64 n3,u3,.int .i64 n4,u4] 72 true)).set (N+2) (.cells [.int .i64 0,.aa,.int .i64 0,.aa] 72 true)=hB at*
 have b1:hB.get N=some (.cells [.int .i64 n1,u1,.int .i64 n2,u2] 72 true):=by rw[<-fV];simp
 have b2:hB.get (N+1)=some (.cells [.int .i64 n3,u3,.int .i64 n4,u4] 72 true):=by rw[<-fV];simp
 have b3:hB.get (N+2)=some (.cells [.int .i64 0,.aa,.int .i64 0,.aa] 72 true):=by rw[<-fV];simp
 refine au (yy (s1.ae kB) (s3.ae kB) (by omega) (by omega)) ?_
 rintro v5 h1 m1 k1 q1
 have eS:=k1.le
 have f1:=(k1.get N (by omega)).trans b1
 have f2:=(k1.get (N+1) (by omega)).trans b2
 have f3:=(k1.get (N+2) (by omega)).trans b3
 have e1:N<m1:=by omega
 have e2:N+1<m1:=by omega
 simp[f1,f2,e1,e2,aL,aM]
 refine au (yy ((s2.ae kB).ae k1) ((s4.ae kB).ae k1) (by omega) (by omega)) ?_
 rintro v6 h2 m2 k2 q2
 have gF:=k2.le
 have f4:=(k2.get (N+2) (by omega)).trans f3
 simp[]
 have hd:((p.den:Nat):Int)*((q.den:Nat):Int)≠0:=by
  have:=p.den_nz
  have:=q.den_nz
  exact GB (by omega) (by omega)
 refine au (Qw (q1.ae k2) q2 hd ?_ ?_) ?_
 ·have:=Bm p.num q.num
  omega
 ·have:=Bm ((p.den:Nat):Int) ((q.den:Nat):Int)
  omega
 ·rintro v7 h3 m3 k3 hv
  rw[<-Rat.divInt_mul_divInt,zd,zd]at hv
  obtain⟨n5,u5,n6,u6,rfl,t1,t2⟩:=hv
  have o5:=cP t1
  have o6:=cP t2
  unfold V.one at o5 o6
  have mm:=k3.le
  have f5:=(k3.get (N+2) (by omega)).trans f4
  have e3:N+2<m3:=by omega
  simp[f5,e3,aL,aM,ag,bS,o5,o6,cD.cG,aA]
  have kk:=((kB.trans k1).trans k2).trans k3
  exact⟨kk.set (by omega),n5,u5,n6,u6,rfl,t1.aC (i:=N+2) f5 ki rfl,t2.aC (i:=N+2) f5 ki rfl⟩
def Vt{x:V}{q:Rat}{h:T O}{N:Nat}(hx:Fc h N x q):Fn A.C 128 [x] h N (fun v _ _=>v=.bool (decide (q.den=1))):=by
 intro w
 rw[aQ,A.k128 (by simp)]
 obtain⟨n1,u1,n2,u2,rfl,s1,s2⟩:=hx
 have o1:=cP s1
 have o2:=cP s2
 unfold V.one at o1 o2
 rcases s2 with⟨e0,_,_⟩|⟨i,o,l,c,e0,_,hz⟩
 ·simp only[V.agg.injEq,iB,V.int.injEq,true_and,and_true]at e0
  obtain⟨rfl,rfl⟩:=e0
  by_cases c1:q.den=1
  ·have c2:((q.den:Nat):Int)=1:=by omega
   simp[A.b128,aL,o1,aW,c1,aA]
   exact aG ad.refl _
  ·have c2:¬((q.den:Nat):Int)=1:=by omega
   simp[A.b128,aL,o1,aW,c1,c2,aA]
   exact aG ad.refl _
 ·simp only[V.agg.injEq,iB,V.int.injEq,true_and,and_true]at e0
  obtain⟨rfl,rfl⟩:=e0
  have c1:¬q.den=1:=by omega
  simp[A.b128,aL,o1,aW,c1,aA]
  exact aG ad.refl _
end
end Go.Mx
