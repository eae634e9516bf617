/-strings-/
import Derived.Test.YtfeehbdhikiikaaGreatDoorNcA
set_option linter.all false
set_option maxHeartbeats 4000000
namespace Go.Mx
variable{n1 n2:Int}{W:List Nat}{M j k m n n0:Nat}{H h' hB hb:T O}{r0:T V}{u u1 u2 y:V}{pre:aH}
noncomputable section
open Go Go.Proofs
variable {N b:Nat} {h:T O} {s:aH} {w:List Nat}
set_option maxRecDepth 1000000
def A.b248:ct:=sr [mv 2 0,ge 3 (.pQ (tq 2)),fa 4 0 3,ld 5 4,ge 6 (.bin .eql (.dJ .ptr) true (tq 5) (.const .bP))] (cd 6 (.fV [mv 7 0,mv 8 0,ge 9 (.Mc none (tq 8)),ge 10 (.ext .same [tq 9]),ge 11 (.Mc (some (225,2)) (tq 10)),ge 12 (.pQ (tq 7)),fa 13 0 12,so 13 11]) (sr [mv 14 0,ge 15 (.pQ (tq 14)),fa 16 0 15,ld 17 16,mv 18 0,ge 19 (.bin .neq (.dJ .ptr) false (tq 17) (tq 18))] (cd 19 (.stop) (.skip))))
def A.k248:=@A.kk 248 20 [] A.b248 (by kernel_rfl) rfl
def A.b219:=A.q Tryz.f219
def A.k219:=@A.kk 219 19 [.tmp 4,.tmp 5] A.b219 (by kernel_rfl) rfl
def A.b220:=A.q Tryz.f220
def A.k220:=@A.kk 220 14 [.tmp 2] A.b220 (by kernel_rfl) rfl
def Bd(h:T O)(N b:Nat)(s:aH):Prop:=b<N/\∃p v,h.get b=some (.cells [p,v] 225 true)/\(p=.bP\/p=.ptr b 0)/\((v=.aa/\s=[])\/∃j,v=.slice j 0 s.length none 1/\b<j/\j<N/\s≠[]/\h.get j=some (.cells (s.map vB) 5 true))
def Yt9{n2:Nat}(gE:n2<=b)(hb:Bd h N b s):Call A.C (.func 248 [] []) [.ptr b 0] ⟨h,N,w⟩ (fun _ st=>st.n=N/\az n2 st.w=az n2 w/\(∀i,i<b->st.h.get i=h.get i)/\Bd st.h N b s):=by
 obtain⟨hN,p,v,hr,hp,hv⟩:=hb;have rZ:¬b<n2:=by omega
 rw[aP,A.k248 (by simp)];rcases hp with rfl|rfl
 ·simp[A.b248,hr,bz,GK,hN,rZ];refine⟨fun i hi hc=>by omega,hN,.ptr b 0,v,?_,.inr rfl,?_⟩
  ·rw[T.ag,av rfl];rfl
  rcases hv with hv|⟨j,h1,h2,h3,h4,h5⟩
  ·exact .inl hv
  exact .inr ⟨j,h1,h2,h3,h4,by rw[T.ag,ak (by omega)];exact h5⟩
 simp[A.b248,hr,bz];exact⟨hN,.ptr b 0,v,hr,.inr rfl,hv⟩
def Yes{t:aH}(fP:n0<=b)(hb:Bd h N b s)(ht:t≠[])(hl:s.length+t.length<1000000000000):Call A.C (.func 219 [] []) [.ptr b 0,.str t] ⟨h,N,w⟩ (fun _ st=>st.n=N+1/\az n0 st.w=az n0 w/\(∀i,i<b->st.h.get i=h.get i)/\Bd st.h (N+1) b (s++t)):=by
 rw[aP,A.k219 (by simp)];simp[A.b219];refine BV (Yt9 fP hb) ?_;rintro _ ⟨H2,n2,W2⟩ ⟨hn,hW,hO,rZ⟩;simp only at hn hW hO rZ;subst hn;obtain⟨hN,p,v,hr,hp,hv⟩:=rZ;have q_:¬t.length=0:=by simpa using ht
 have hc:(t.map vB).length=t.length:=by simp
 have LG:az n0 W2=[]:=hW;have m1:2*t.length<=281474976710656:=by omega
 have m2:¬281474976710656<2*(s.length+t.length):=by omega
 have m3:¬s.length+t.length<=s.length:=by omega
 have aX:¬b=n2:=by omega
 have nT:¬b<n0:=by omega
 rcases hv with⟨rfl,rfl⟩|⟨j,rfl,h2,h3,h4,h5⟩
 ·simp[-az,hr,EF,mR,fO,Ae,q_,St.alloc,m1,aX,bM,ae];refine⟨Pz (PA (by simp[az,LG,nT])),fun i hi=>?_,by omega,p,.slice n2 0 t.length none 1,by rw[T.ag,av rfl],hp,.inr ⟨n2,rfl,hN,by omega,ht,by rw[T.ag,ak (by omega),T.ag,av rfl];rfl⟩⟩;rw[ak (by omega),ak (by omega)];exact hO i hi
 have np:¬b=j:=by omega
 have Cv:¬j<n0:=by omega
 simp[-az,hr,EF,mR,fO,Ae,q_,St.alloc,St.row,h5,m2,m3,aX,np,bM,ae];refine⟨Pz (PA (by simp[az,LG,nT,Cv])),fun i hi=>?_,by omega,p,.slice n2 0 (s.length+t.length) none 1,by rw[T.ag,av rfl],hp,.inr ⟨n2,by simp,hN,by omega,by simp[h4],by rw[T.ag,ak (by omega),T.ag,av rfl,List.map_append];rfl⟩⟩;rw[ak (by omega),ak (by omega),ak (by omega)];exact hO i hi
def Yqi{α:Type}(c:List α):aO c 0 c.length=some c:=by unfold aO;simp
def Zvy:∀(s:aH),JC (s.map vB)=some s
 |[]=>rfl
 |c::s=>by
  rw[pU]
  have h1:T0 (vB c)=some c:=by
   unfold T0 vB cZ
   have:=c.toNat_lt
   simp
   omega
  simp only[JC,h1,Zvy s]
def Yuc(fP:n0<=b)(hb:Bd h N b s)(hs:s≠[])(hl:s.length<1000000000000):Call A.C (.func 220 [] []) [.ptr b 0] ⟨h,N,w⟩ (fun v st=>v=.str s/\st.n=N/\az n0 st.w=az n0 w/\(∀i,i<b->st.h.get i=h.get i)):=by
 obtain⟨hN,p,v,hr,hp,hv⟩:=hb;rw[aP,A.k220 (by simp)];rcases hv with⟨_,rfl⟩|⟨j,rfl,h2,h3,h4,h5⟩
 ·exact absurd rfl hs
 have h0:0<s.length:=List.length_pos_iff.2 hs;have jD:(0:Int)<(s.length:Int):=by omega
 have hm:(s.length:Int)<=9223372036854775807:=by omega
 have cv:aO (s.map vB) 0 s.length=some (s.map vB):=by have:=Yqi (s.map vB);rw[dL]at this;exact this
 have hbm:=Zvy s;have Cv:¬j<n0:=by omega
 simp[A.b220,hr,Mv,Mw,h0,hm,h5,h3,hN,cv,hbm,Cv];exact fun i hi hc=>by omega
variable {b nB:Nat} {gs:List aH} {r:T V} {sT:St} {v:V}
def A.FH:=A.q Tryz.f156
def A.mE:=A.ql A.FH 1 []
def A.mF:=A.ql A.FH 0 []
def A.ue:=(fun x0 x1=>A.qt A.FH [x0,x1] [] [1,1,1,1,1,1,1,1]) A.mF A.mE
def A.b156:=(fun x0 x1 y0=>A.qt A.FH [x0,x1] [([1,1,1,1,1,1,1,1],y0)] []) A.mF A.mE A.ue
def A.k156:=@A.kk 156 69 [.tmp 2] A.b156 (by kernel_rfl) rfl
def uf(n:Nat):List aH:=if h:n=0 then [] else (if n/1000000000000000000=0 then aq n else js (n%1000000000000000000) 18)::uf (n/1000000000000000000)
termination_by n
decreasing_by omega
def Vv:uf 0=[]:=by unfold uf;simp
def Vw(h:n≠0):uf n=(if n/1000000000000000000=0 then aq n else js (n%1000000000000000000) 18)::uf (n/1000000000000000000):=by
 conv=>lhs;unfold uf
 rw[dif_neg h]
def Ys4:∀{n:Nat},n≠0->(uf n).reverse.flatten=aq n:=by
 intro n;induction n using Nat.strongRecOn with
 |_ n ih=>
  intro h;rw[Vw h];by_cases h0:n/1000000000000000000=0
  ·rw[av h0,h0,Vv];simp
  rw[ak h0,List.reverse_cons,List.flatten_append,ih _ (by omega) h0,KD h,KD h0];have e:=Zr2 (k:=18) (a:=n/1000000000000000000) (b:=n%1000000000000000000) h0 (m_ _ (by decide));rw[show n/1000000000000000000*10^18+n%1000000000000000000=n by have:=wy n 1000000000000000000;omega]at e;rw[e];simp
def Zvs{a:Nat}(h:a<=b):(dC a).length<=(dC b).length:=rI.1 (pT h (rI.2 (aN _)))
def Yhw:∀{n:Nat},(uf n).length<=(dC n).length:=by
 intro n;induction n using Nat.strongRecOn with
 |_ n ih=>
  by_cases h:n=0
  ·subst h;rw[Vv];simp
  rw[Vw h,bl,zv h,iU];have h1:=ih (n/1000000000000000000) (by omega);have h2:=Zvs (a:=n/1000000000000000000) (b:=n/10) (by omega);simp;omega
def Yoy:∀{n:Nat} {s:aH},s∈uf n->s≠[]:=by
 intro n;induction n using Nat.strongRecOn with
 |_ n ih=>
  intro s hs;by_cases h:n=0
  ·subst h;rw[Vv]at hs;cases hs
  rw[Vw h]at hs;rcases iP.1 hs with hs|hs
  ·subst hs;split
   ·exact J1 n
   intro hc;have:=Ym6 (b:=n%1000000000000000000) (k:=18) (m_ _ (by decide));rw[hc]at this;simp at this
  exact ih _ (by omega) hs
def yd(l:List aH):List (List V):=l.map fun s=>[.str s]
def Yve{q:V}{Q n':Nat}{e:TypeId}(hq:Wn h n q Q)(hQ:Q≠0)(hv:Own 1 e nB h n v (yd gs))(hh:∀j,j<n->h'.get j=h.get j\/(∃o m c y,v=.slice j o m c y))(hn:n<=n'):Wn h' n' q Q:=by
 obtain⟨d,hd⟩:∃d,(aJ Q)[0]?=some d:=by rw[oJ hQ];exact⟨_,rfl⟩
 rcases hq with⟨hz,_⟩|⟨i,o,cp,c,ee,rw,rfl,q1,q2,q3,q4⟩
 ·rw[oJ hQ]at hz;simp[dg]at hz
 refine .inr ⟨i,o,cp,c,ee,rw,rfl,fH q1 hn,?_,q3,q4⟩;rcases hh i q1 with h1|⟨o',m,c',y,rfl⟩
 ·rw[h1];exact q2
 exfalso;rcases hv with⟨_,⟨_,h1⟩|⟨i',h1,_,_,h2⟩⟩
 ·cases h1
 simp only[V.slice.injEq]at h1;obtain⟨rfl,_⟩:=h1;rw[q2]at h2;simp only[ar,O.cells.injEq]at h2;have h3:=q3 0 (by rw[bu,oJ hQ];simp);rw[gw hd,h2.1]at h3;have:=cP h3;obtain⟨l,hl,hx⟩:=List.mem_flatten.1 this;obtain⟨s,_,rfl⟩:=bO.1 hl;simp at hx
structure Rl (hB:T O) (nB M:Nat) (m:Nat) (r:T V) (st:St):Prop where
 w:az nB st.w=[]
 ad:ab hB nB st.h st.n
 ex:∃u v gs,r.get 4=some u/\r.get 6=some v/\oe u=some (aJ m).length/\(m≠0->Wn st.h st.n u m)/\Own 1 9 nB st.h st.n v (yd gs)/\gs++uf m=uf M
def Ykg{t:V}(hP:iT hB nB)(hM:(dC M).length<100000000000)(hm:m<=M)(ht:Wn hB nB t 1000000000000000000)(a5:r.get 5=some t)(hf:Fx [(4,4),(6,9),(24,53)] r0 69 ⟨r,69,[]⟩)(s:Rl hB nB M m r sT):
  Code A.C none A.mF ⟨r,69,[]⟩ sT (Rd [(4,4),(6,9),(24,53)] r0 69 (fun k r st=>k<=M/\Rl hB nB M k r st) m (fun e r st=>e=.exit 0/\Rl hB nB M 0 r st)):=by
 obtain⟨H,n1,W⟩:=sT;obtain⟨hW,hK,u,v,gs,a4,a6,lu,hu,ho,hg⟩:=s;simp only at hW hK hu ho;rw[bG];by_cases h0:m=0
 ·subst h0;rw[tP]at lu;simp[A.mF,hf,a4,lu];exact⟨hW,hK,u,v,gs,by simp[a4],by simp[a6],by rw[tP];exact lu,hu,ho,hg⟩
 replace hu:=hu h0;have lp:0<(aJ m).length:=by rw[oJ h0];simp
 have uH:(aJ m).length<1000000000000:=by have h1:=HR (n:=m) (k:=(dC M).length) (rI.2 (Zvs hm));unfold wl at h1;simp at h1;omega
 have qQ:(aJ 1000000000000000000).length<1000000000000:=by rw[Kk (by decide) (by decide)];decide
 have zw:gs.length+(uf m).length<=(dC M).length:=by rw[<-iU,hg];exact Yhw
 have jG:=Vw h0;rw[jG,bl]at zw;simp[A.mF,a4,a5,lu,lp];refine au (Zvn hu (ht.ad hK) (by decide) uH qQ) ?_;rintro _ h2 n2 k2 ⟨q,EX,rfl,hq,PV⟩;have lq:=hq.len;have lr:=PV.len;rw[bu]at lq lr;obtain⟨R,hR⟩:∃R,m%1000000000000000000=R:=⟨_,rfl⟩;obtain⟨Q,hQ⟩:∃Q,m/1000000000000000000=Q:=⟨_,rfl⟩;rw[hR]at lr PV jG;rw[hQ]at lq hq jG zw;have kk:=hK.trans k2;have AU:=hP.ad kk;have app:∀(h3:T O) (n3:Nat) (W3:List Nat) (g:aH),ab h2 n2 h3 n3->az nB W3=[]->g=(if Q=0 then aq m else js R 18)->
   ∃v' h' w',mR ⟨h3.set n3 (.cells [.str g] 9 true),n3+1,W3⟩ 1 16 9 v (.slice n3 0 1 (some 1) 1)=some (v',⟨h',n3+1+1,w'⟩)/\az nB w'=[]/\ab hB nB h' (n3+1+1)/\(Q≠0->Wn h' (n3+1+1) q Q)/\Own 1 9 nB h' (n3+1+1) v' (yd (gs++[g]))/\(gs++[g])++uf Q=uf M:=by
  intro h3 n3 W3 g k3 DE re
  have kk3:=kk.trans k3
  have iy:=kk3.le
  have uI:=(ho.ad (k2.trans k3)).ad (aQ ab.refl (.cells [.str g] 9 true))
  obtain⟨v',h',w',e1,e2,e3,e4,e5⟩:=Az (x:=[.str g]) (u:=.slice n3 0 1 (some 1) 1) (bytes:=16) (w:=W3) uI (by omega) (by decide) rfl (by simp[fO,St.row,aO]) (by simp[yd];omega)
  refine⟨v',h',w',e1,by rw[e2];exact DE,(kk3.trans (aQ ab.refl _)).then e3,fun FI=>?_,by simpa[yd]using e5,by rw[re,<-hg,jG,uJ];rfl⟩
  have Q2:=(hq.ad k3).ad (aQ ab.refl (.cells [.str g] 9 true))
  refine Yve Q2 FI uI (fun j hj=>?_) (vY _)
  rcases e4 j with h1|h1|h1
  ·exact .inl h1
  ·omega
  ·exact .inr h1
 by_cases Bq:R=0
 ·have FI:Q≠0:=by omega
  have lqp:0<(aJ Q).length:=by rw[oJ FI];simp
  have zaL:(0:Int)<((aJ Q).length:Int):=by omega
  have re:[48,48,48,48,48,48,48,48,48,48,48,48,48,48,48,48,48,48]=(if Q=0 then aq m else js R 18):=by rw[ak FI,Bq];unfold js;rw[vK];rfl
  rw[Bq,tP]at lr;simp[lq,lr,lqp];refine au (Zuj (k:=17) (by decide)) ?_;rintro _ h3 n3 k3 rfl;obtain⟨v',h',w',e1,e2,e3,e4,e5,e6⟩:=app h3 n3 W _ k3 hW re;simp[hf,a6,jJ,ae,e1];exact⟨Q,by omega,by omega,⟨e2,e3,q,v',_,by simp,by simp,lq,e4,e5,e6⟩⟩
 have hRw:aJ R=[R]:=Kk (by unfold B;omega) Bq;obtain⟨i,o,c,e,wr,p1,p2,p3,p4⟩:=PV.at (gw (l:=aJ R) (j:=0) (n:=R) (by rw[hRw];rfl));rw[hRw]at lr;have lr:oe EX=some 1:=lr;have hRd:=KD Bq;rw[iX]at p4;by_cases FI:Q=0
 ·have re:aq R=(if Q=0 then aq m else js R 18):=by rw[av FI];congr 1;omega
  have lqz:(aJ Q).length=0:=by rw[FI,tP];rfl
  rw[lqz]at lq;simp[lr,p1,p3,p4];refine au (Yo1 (x:=R) (by omega) AU) ?_;rintro _ h3 n3 k3 rfl;obtain⟨v',h',w',e1,e2,e3,e4,e5,e6⟩:=app h3 n3 W _ k3 hW re;simp[hf,a6,lq,ae,e1];exact⟨Q,by omega,by omega,⟨e2,e3,q,v',_,by simp,by simp,by rw[lqz];exact lq,e4,e5,e6⟩⟩
 have lqp:0<(aJ Q).length:=by rw[oJ FI];simp
 have zaL:(0:Int)<((aJ Q).length:Int):=by omega
 have zbN:(dC R).length<=18:=rI.1 (by omega);have re:List.replicate (18-(aq R).length) 48++aq R=(if Q=0 then aq m else js R 18):=by rw[ak FI,hRd];rfl
 have hs:(18:Int)-((aq R).length:Int)=((18-(aq R).length:Nat):Int):=by rw[hRd];omega
 have Gj:¬(9223372036854775807:Int)<(((List.replicate (18-(aq R).length) (48:UInt8)).length+(aq R).length:Nat):Int):=by rw[List.length_replicate,hRd];omega
 simp[lr,p1,p3,p4];refine au (Yo1 (x:=R) (by omega) AU) ?_;rintro _ h3 n3 k3 rfl;generalize aq R=S at*;simp(disch:=omega) [lq,lqp,hs];refine au (Zuj (k:=18-S.length) (by omega)) ?_;rintro _ h4 n4 k4 rfl;obtain⟨v',h',w',e1,e2,e3,e4,e5,e6⟩:=app h4 n4 W _ (k3.trans k4) hW re;generalize List.replicate (18-S.length) (48:UInt8)=Z at*;have dq:IntKind.max .i64=9223372036854775807:=rfl;have zaM:¬(9223372036854775807:Int)<(Z.length:Int)+(S.length:Int):=by omega
 simp[hf,a6,jJ,dq,zaM,ae,e1];exact⟨Q,by omega,by omega,⟨e2,e3,q,v',_,by simp,by simp,lq,e4,e5,e6⟩⟩
structure Rm (hb:T O) (n0 b:Nat) (gs:List aH) (pre:aH) (k:Nat) (r:T V) (st:St):Prop where
 hk:k<=gs.length
 yb:r.get 11=some (.int .i64 ((k:Int)-1))
 w:az n0 st.w=[]
 Ri:∀i,i<b->st.h.get i=hb.get i
 bd:Bd st.h st.n b (pre++(gs.drop k).reverse.flatten)
def Ymx(gs:List aH)(k:Nat):gs.reverse.flatten=(gs.drop k).reverse.flatten++(gs.take k).reverse.flatten:=by
 conv=>lhs;rw[<-Et k gs]
 rw[List.reverse_append,List.flatten_append]
def Ykd(h:gs[j]?=some s):(yd gs).flatten[j]?=some (.str s):=by
 have:∀gs:List aH,(yd gs).flatten=gs.map V.str:=by
  intro gs;induction gs with
  |nil=>rfl
  |cons a gs ih=>show V.str a::(yd gs).flatten=_;rw[ih];rfl
 rw[this,eH,h];rfl
def Ykf(fP:n0<=b)(hl:pre.length+gs.reverse.flatten.length<1000000000000)(zw:gs.length<1000000000000)(aX:∀s∈gs,s≠[])(ho:Own 1 9 nB hb b v (yd gs))(a6:r.get 6=some v)(Kc:r.get 10=some (.ptr b 0))(hf:Fx [(11,11),(59,67)] r0 69 ⟨r,69,[]⟩)(s:Rm hb n0 b gs pre k r sT):
  Code A.C none A.mE ⟨r,69,[]⟩ sT (Rd [(11,11),(59,67)] r0 69 (Rm hb n0 b gs pre) k (fun e r st=>e=.exit 2/\Rm hb n0 b gs pre 0 r st)):=by
 obtain⟨H,n1,W⟩:=sT;obtain⟨hk,DM,hW,hO,Gl⟩:=s;simp only at hW hO Gl;rw[bG];cases k with
 |zero=> have Rn:r.get 11=some (.int .i64 (-1)):=DM;simp[A.mE,hf,Rn];exact⟨hk,by simp[Rn],hW,hO,Gl⟩
 |succ j=>
  have e1:((j+1:Nat):Int)-1=(j:Int):=by omega
  rw[e1]at DM;obtain⟨g,hg⟩:∃g,gs[j]?=some g:=⟨_,cj (by omega)⟩;have wM:=Ykd hg;have lv:=ho.len;have lg:(yd gs).length=gs.length:=by simp[yd]
  rw[lg]at lv;have JT:(j:Int)<(gs.length:Int):=by omega
  rcases ho with⟨_,⟨h1,_⟩|⟨i,rfl,h2,h3,h4⟩⟩
  ·exfalso;have:gs=[]:=by simpa[yd]using h1
   subst this;simp at hk
  have aA:=(hO i h3).trans h4;have KF:(gs.drop j).reverse.flatten=(gs.drop (j+1)).reverse.flatten++g:=by
   have:gs.drop j=g::gs.drop (j+1):=by rw[Je (by omega)];congr 1;rw[cj (by omega)]at hg;simpa using hg
   rw[this,List.reverse_cons,List.flatten_append];simp
  have zaN:=congrArg List.length (Ymx gs j);rw[KF,iU,iU]at zaN;simp[A.mE,a6,Kc,DM,aA,wM,JT,lg];refine BV (Yes fP Gl (aX g (cP hg)) (by rw[iU];omega)) ?_;rintro _ ⟨H2,n2,W2⟩ ⟨hn,g_,zf,rZ⟩;simp only at hn g_ zf rZ;subst hn;simp(disch:=first|(simp;done)|omega|(simp only[bu,cr,bl];omega)|rfl) [hf,DM];refine⟨j,by omega,by omega,by simp,by rw[g_,hW],fun i hi=>(zf i hi).trans (hO i hi),?_⟩;rw[KF,<-uJ];exact rZ
def Yfb(fP:n0<=b)(hl:pre.length+gs.reverse.flatten.length<1000000000000)(zw:gs.length<1000000000000)(aX:∀s∈gs,s≠[])(Vx:pre++gs.reverse.flatten≠[])(ho:Own 1 9 nB hb b v (yd gs))(a6:r.get 6=some v)(Kc:r.get 10=some (.ptr b 0))
  (hW:az n0 sT.w=[]) (hO:∀i,i<b->sT.h.get i=hb.get i) (Gl:Bd sT.h sT.n b pre):
  Code A.C none A.ue ⟨r,69,[]⟩ sT (fun e fr st=>e=.ret/\∃r',fr=⟨r',69,[]⟩/\r'.get 2=some (.str (pre++gs.reverse.flatten))/\az n0 st.w=[]/\(∀i,i<b->st.h.get i=hb.get i)/\b<=st.n):=by
 obtain⟨H,n1,W⟩:=sT;simp only at hW hO Gl;rw[bG];have lv:=ho.len;rw[show (yd gs).length=gs.length by simp[yd]]at lv;simp(disch:=omega) [A.ue,a6,lv];refine cB [(11,11),(59,67)] (fun e r st=>e=.exit 2/\Rm hb n0 b gs pre 0 r st) (Rm hb n0 b gs pre) gs.length ?_ ?_ ?_
 ·exact⟨aN _,by simp,hW,hO,by simpa using Gl⟩
 ·intro k r' aB hr hf J;exact Ykf fP hl zw aX ho (by rw[hr 6 (by decide)];simp[a6]) (by rw[hr 10 (by decide)];simp[Kc]) hf J
 rintro e r' ⟨H2,n2,W2⟩ hr ⟨rfl,hk,_,g_,zf,rZ⟩;simp only at g_ zf rZ;rw[Bx]at rZ;have hb3:=rZ.1;have zaO:r'.get 10=some (.ptr b 0):=by rw[hr 10 (by decide)];simp[Kc]
 simp[zaO];refine BV (Yuc fP rZ Vx (by rw[iU];omega)) ?_;rintro _ ⟨H3,n3,W3⟩ ⟨rfl,hn,DE,Hl⟩;simp only at hn DE Hl;subst hn;simp[];exact⟨by rw[DE,g_],fun i hi=>(Hl i hi).trans (zf i hi),by omega⟩
def Vy{x:V}{z:Int}(hx:In h N x z)(hP:iT h N)(hl:(dC z.natAbs).length<100000000000):Fn A.C 156 [x] h N (fun v h' N'=>v=.str (aM z)):=by
 intro w;rw[aP,A.k156 (by simp)];rcases id hx with⟨rfl,h1,h2⟩|⟨i0,o0,l0,c0,rfl,ZG,uQ⟩
 ·simp[A.b156,aS,bz];refine au (Ysw h1 h2 (hP.ad (aQ ab.refl _))) ?_;rintro _ h3 n3 k3 rfl;simp[ay];exact(aQ ab.refl _).trans k3
 simp[A.b156,aS,aO,bz];refine au (Fw (hx.ad (aQ ab.refl (.cells [.int .i64 (Ap z),.slice i0 o0 l0 c0 1] 99 true)))) ?_;rintro _ h1 n1 k1 ⟨u,rfl,hu⟩;obtain⟨M,hM⟩:∃M,z.natAbs=M:=⟨_,rfl⟩;rw[hM]at hu hl;have hM0:M≠0:=by omega
 have lu:=hu.len;rw[bu]at lu;have kN:=(aQ (ab.refl (h:=h) (n:=N)) (.cells [.int .i64 (Ap z),.slice i0 o0 l0 c0 1] 99 true)).trans k1;have kT:=aQ (ab.refl (h:=h1) (n:=n1)) (.cells [.int .u64 1000000000000000000] 205 true);have hT:Wn (h1.set n1 (.cells [.int .u64 1000000000000000000] 205 true)) (n1+1) (.slice n1 0 1 (some 1) 1) 1000000000000000000:=by unfold Wn;rw[Kk (by decide) (by decide)];exact Sl.row (e:=205) (rw:=true) (L:=1) (by omega) (by simp[dg]) (by simp) (by simp)
 simp[ae];generalize mG:h1.set n1 (.cells [.int .u64 1000000000000000000] 205 true)=hB at*;have hPB:=(hP.ad kN).ad kT;refine cB [(4,4),(6,9),(24,53)] (fun e r st=>e=.exit 0/\Rl hB (n1+1) M 0 r st) (fun k r st=>k<=M/\Rl hB (n1+1) M k r st) M ?_ ?_ ?_
 ·exact⟨aN _,by simp[az],ab.refl,u,.aa,[],by simp,by simp,lu,fun _=>hu.ad kT,Own.nil,rfl⟩
 ·rintro m r st hr hf ⟨hm,J⟩;exact Ykg hPB hl hm hT (by rw[hr 5 (by decide)];simp) hf J
 rintro e r ⟨H,n2,W⟩ hr ⟨rfl,hW,hK,u2,v,gs,a4,a6,_,_,ho,hg⟩;rw[Vv,zO]at hg;subst hg;simp only at hW hK ho;have iy:=hK.le;have xS:=kN.le;have a3:r.get 3=some (.bool (decide (z<0))):=by rw[hr 3 (by decide)];simp
 have nN:=Ys4 hM0;have zw:(uf M).length<1000000000000:=pT Yhw (by omega);have kM:(aq M).length<100000000000:=by rw[KD hM0];exact hl
 have uK:Bd (H.set n2 (.cells [.bP,.aa] 225 true)) (n2+1) n2 []:=⟨xx _,.bP,.aa,by rw[T.ag,av rfl],.inl rfl,.inl ⟨rfl,rfl⟩⟩;by_cases hz:z<0
 ·have DQ:aM z=[45]++(uf M).reverse.flatten:=by unfold aM;rw[av hz,hM,nN];rfl
  simp[a3,hz];refine BV (Yes (n0:=n1+1) iy uK (t:=[45]) (by decide) (by decide)) ?_;rintro _ ⟨H2,n3,W2⟩ ⟨hn,g_,zf,rZ⟩;simp only at hn g_ zf rZ;subst hn;simp[];refine qV (Yfb (nB:=n1+1) (n0:=n1+1) (b:=n2) (hb:=H) (gs:=uf M) (pre:=[45]) (v:=v) iy (by rw[nN];simp;omega) zw (fun s hs=>Yoy hs) (by simp) ho (by simp[a6]) (by simp) (by rw[g_,hW]) (fun i hi=>by rw[zf i hi,T.ag,ak (by omega)]) rZ) ?_;rintro e fr ⟨H6,n6,W6⟩ ⟨rfl,r6,rfl,g2,g3,g4,g5⟩;simp only at g3 g4 g5;have hW6:=ML (show N<=n1+1 by omega) g3;simp[g2,ay,hW6,DQ];exact⟨by omega,fun i hi=>by rw[g4 i (by omega),hK.get i (by omega),<-mG,T.ag,ak (by omega),kN.get i hi]⟩
 have DQ:aM z=[]++(uf M).reverse.flatten:=by unfold aM;rw[ak hz,hM,nN];rfl
 simp[a3,hz];refine qV (Yfb (nB:=n1+1) (n0:=n1+1) (b:=n2) (hb:=H) (gs:=uf M) (pre:=[]) (v:=v) iy (by rw[nN];simp;omega) zw (fun s hs=>Yoy hs) (by rw[List.nil_append,nN];exact J1 M) ho (by simp[a6]) (by simp) hW (fun i hi=>by rw[T.ag,ak (by omega)]) uK) ?_;rintro e fr ⟨H6,n6,W6⟩ ⟨rfl,r6,rfl,g2,g3,g4,g5⟩;simp only at g3 g4 g5;have hW6:=ML (show N<=n1+1 by omega) g3;simp[g2,ay,hW6,DQ];exact⟨by omega,fun i hi=>by rw[g4 i (by omega),hK.get i (by omega),<-mG,T.ag,ak (by omega),kN.get i hi]⟩
variable {N:Nat} {a b z:Int} {h:T O} {x:V}
def A.b144:=A.q Tryz.f144
def A.k144:=@A.kk 144 6 [.cell 2 (some 4)] A.b144 (by kernel_rfl) rfl
def A.b108:=A.q Tryz.f108
def A.k108:=@A.kk 108 6 [.cell 2 (some 4)] A.b108 (by kernel_rfl) rfl
def A.b143:=A.q Tryz.f143
def A.k143:=@A.kk 143 13 [.tmp 2] A.b143 (by kernel_rfl) rfl
def A.KG:=A.q Tryz.f146
def A.pc:=A.qt A.KG [] [] [1,1,1]
def A.jw:=(fun y0=>A.qt A.KG [] [([1,1,1],y0)] [1,1]) A.pc
def A.b146:=(fun y0=>A.qt A.KG [] [([1,1],y0)] []) A.jw
def A.k146:=@A.kk 146 34 [.cell 4 (some 4)] A.b146 (by kernel_rfl) rfl
def Fc(h:T O)(N:Nat)(x:V)(q:Rat):Prop:=∃n1 u1 n2 u2,x=.agg [.int .i64 n1,u1,.int .i64 n2,u2]/\In h N (.agg [.int .i64 n1,u1]) q.num/\In h N (.agg [.int .i64 n2,u2]) (q.den:Nat)
def Fc.ad{h':T O}{N':Nat}{q:Rat}(s:Fc h N x q)(k:ab h N h' N'):Fc h' N' x q:=by obtain⟨n1,u1,n2,u2,rfl,s1,s2⟩:=s;exact⟨n1,u1,n2,u2,rfl,s1.ad k,s2.ad k⟩
def eh{n:Int}(s:In h N (.agg [.int .i64 n,u]) z):V.one u=true:=by obtain⟨n',u',e,h1⟩:=s.cells;simp at e;rw[e.2];exact h1
def Zse(hx:In h N x z):Fn A.C 144 [x] h N (fun v h' N'=>Fc h' N' v (z:Rat)):=by
 intro w;rw[aP,A.k144 (by simp)];obtain⟨n,u,rfl,hu⟩:=hx.cells;have nJ:=hu;unfold V.one at nJ;simp[A.b144,aS,aO,nJ];refine au Ki ?_;rintro _ h1 n1 k1 rfl;have xS:=k1.le;have g0:=k1.get (N+1) (by omega);simp at g0;simp[aS,aO,ae,bM,g0,nJ,c9.c_,ay];have kk:=(((aQ (aQ ab.refl (.cells [.int .i64 n,u] 99 true)) (.cells [.int .i64 0,.aa,.int .i64 0,.aa] 101 true)).trans k1).set (h:=h) (n:=N) (i:=N+1) (o:=.cells [.int .i64 n,u,.int .i64 1,.aa] 101 true) (by omega));refine⟨?_,kk,n,u,1,.aa,rfl,?_,?_⟩
 ·split<;>simp[az]
 ·exact hx.ad kk
 exact In.small (by decide) (by decide)
def Yxa(h1: -9223372036854775808<=z)(h2:z<9223372036854775808):Fn A.C 108 [.int .i64 z] h N (fun v h' N'=>Fc h' N' v (z:Rat)):=by
 intro w;rw[aP,A.k108 (by simp)];simp[A.b108];refine au Ki ?_;rintro _ h3 n3 k3 rfl;simp[];refine au (Zse (In.small h1 h2)) ?_;rintro _ h4 n4 k4 ⟨n1,u1,n2,u2,rfl,s1,s2⟩;have xS:=k3.le;have xY:=k4.le;have g0:=(k4.get N (by omega)).trans (k3.get N (by omega));simp at g0;have o1:=eh s1;have o2:=eh s2;unfold V.one at o1 o2;simp[aS,aO,ae,bM,g0,o1,o2,ay];have kk:=(((aQ (ab.refl (h:=h) (n:=N)) (.cells [.int .i64 0,.aa,.int .i64 0,.aa] 101 true)).trans k3).trans k4).set (h:=h) (n:=N) (i:=N) (o:=.cells [.int .i64 n1,u1,.int .i64 n2,u2] 101 true) (by omega);have g1:=(k4.get N (by omega)).trans (k3.get N (by omega));rw[T.ag,av rfl]at g1;have hn:∀x∈[V.int .i64 0,V.aa,V.int .i64 0,V.aa],∀m,x≠.int .u64 m:=by intro x hx m hc;simp at hx;rcases hx with rfl|rfl|rfl|rfl<;>cases hc
 exact⟨kk,n1,u1,n2,u2,rfl,s1.aG g1 hn rfl,s2.aG g1 hn rfl⟩
def qp:∀x∈[V.int .i64 0,V.aa,V.int .i64 0,V.aa],∀m,x≠.int .u64 m:=by intro x hx m hc;simp at hx;rcases hx with rfl|rfl|rfl|rfl<;>cases hc
structure Vz (H:T O) (N:Nat) (q:Rat) (st:St):Prop where
 w:az N st.w=[]
 old:∀i,i<N->st.h.get i=H.get i
 le:N+3<=st.n
 ex:∃n1 u1 n2 u2,st.h.get (N+2)=some (.cells [.int .i64 n1,u1,.int .i64 n2,u2] 101 true)/\Fc st.h st.n (.agg [.int .i64 n1,u1,.int .i64 n2,u2]) q
def Xcf(hn:N+3<=n)(hW:az N W=[])(g1:H.get N=some (.cells [.int .i64 n1,u1] 99 true))(g2:H.get (N+1)=some (.cells [.int .i64 n2,u2] 99 true))(g3:H.get (N+2)=some (.cells [.int .i64 0,.aa,.int .i64 0,.aa] 101 true))
  (hx:In H n (.agg [.int .i64 n1,u1]) a) (hy:In H n (.agg [.int .i64 n2,u2]) b) (hb:0<b) (la:wl a<10000000000) (lb:wl b<10000000000) (a2:r.get 2=some (.ptr N 0)) (a3:r.get 3=some (.ptr (N+1) 0)) (a4:r.get 4=some (.ptr (N+2) 0)):
  Code A.C none A.pc ⟨r,34,[]⟩ ⟨H,n,W⟩ (fun e fr st=>e=.ret/\∃r',fr=⟨r',34,[]⟩/\r'.get 4=some (.ptr (N+2) 0)/\Vz H N (Rat.divInt a b) st):=by
 rw[bG];have o1:=eh hx;have o2:=eh hy;unfold V.one at o1 o2;simp[A.pc,a2,a3,g1,g2,aS,aO];refine au (Yo0 hx hy la lb) ?_;rintro _ h1 m1 k1 hg;obtain⟨ng,ug,rfl,hug⟩:=hg.cells;have Ro:=hug;unfold V.one at Ro;have xS:=k1.le;have Ov:=(k1.get N (by omega)).trans g1;have zW:=(k1.get (N+1) (by omega)).trans g2;have g3':=(k1.get (N+2) (by omega)).trans g3;have d1:¬N=m1:=by omega
 have d2:¬N+1=m1:=by omega
 have d3:¬N+2=m1:=by omega
 have e1:N<m1+1:=by omega
 have e2:N+1<m1+1:=by omega
 have e3:N+2<m1+1:=by omega
 have jG:0<Int.gcd a b:=Int.gcd_pos_of_ne_zero_right a (by omega);obtain⟨G,hG⟩:∃G,Int.gcd a b=G:=⟨_,rfl⟩;rw[hG]at jG hg;have hGb:(G:Int)<=b:=by rw[<-hG];exact Int.le_of_dvd hb (Int.gcd_dvd_right ..)
 have lg:wl (G:Int)<10000000000:=pT (Nc (by omega)) lb;have kS:ab h1 m1 ((h1.set m1 (.cells [.int .i64 0,.aa] 99 true)).set m1 (.cells [.int .i64 ng,ug] 99 true)) (m1+1):=(aQ ab.refl _).set (aN _);simp[a2,Ov,d1,aS,aO,ae,bM,Ro,e1];refine au (Yog ((hx.ad k1).ad kS) (hg.ad kS) (by omega) la lg) ?_;rintro _ h2 m2 k2 rO;obtain⟨n3,u3,rfl,Ng⟩:=rO.cells;have o3:=Ng;unfold V.one at o3;have kT:=(k1.trans kS).trans k2;have jN:=kT.le;have f1:=(kT.get N (by omega)).trans g1;have f2:=(kT.get (N+1) (by omega)).trans g2;have f3:=(kT.get (N+2) (by omega)).trans g3;have f5:=k2.get m1 (by omega);rw[T.ag,av rfl]at f5;have jE:=k2.le;have e4:N+1<m2:=by omega
 have e5:m1<m2:=by omega
 have e6:N+2<m2:=by omega
 simp[a3,f2,f5,aS,aO,e4,e5];refine au (Yog ((hy.ad kT)) ((hg.ad kS).ad k2) (by omega) lb lg) ?_;rintro _ h3 m3 k3 mV;obtain⟨n4,u4,rfl,Rj⟩:=mV.cells;have o4:=Rj;unfold V.one at o4;have kU:=kT.trans k3;have xY:=kU.le;have f6:=(kU.get (N+2) (by omega)).trans g3;have e7:N+2<m3:=by omega
 simp[a4,f6,ae,bM,o3,o4,e7,c9.c_];have NZ:(Rat.divInt a b).num=a/(G:Int):=by rw[Rat.num_divInt,Int.sign_eq_one_of_pos hb,Int.one_mul,Int.gcd_comm,hG]
 have zaP:((Rat.divInt a b).den:Int)=b/(G:Int):=by rw[Rat.den_divInt,ak (by omega),Int.gcd_comm,hG,Int.natCast_ediv,Int.natAbs_of_nonneg (by omega)]
 have jS:¬N+2<N:=by omega
 have n3':¬m1<N:=by omega
 refine⟨by simp[az,hW,jS,n3'],fun i hi=>?_,by show N+3<=m3;omega,n3,u3,n4,u4,by show T.get (T.set _ _ _) _=_;rw[T.ag,av rfl],n3,u3,n4,u4,rfl,?_,?_⟩
 ·show T.get (T.set _ _ _) _=_;rw[T.ag,ak (by omega),kU.get i (by omega)]
 ·rw[NZ];exact(rO.ad k3).aG f6 qp rfl
 rw[zaP];exact mV.aG f6 qp rfl
def Xce(hn:N+3<=n)(hW:az N W=[])(g1:H.get N=some (.cells [.int .i64 n1,u1] 99 true))(g2:H.get (N+1)=some (.cells [.int .i64 n2,u2] 99 true))(g3:H.get (N+2)=some (.cells [.int .i64 0,.aa,.int .i64 0,.aa] 101 true))
  (hx:In H n (.agg [.int .i64 n1,u1]) a) (hy:In H n (.agg [.int .i64 n2,u2]) b) (hb:0<b) (la:wl a<10000000000) (lb:wl b<10000000000) (a2:r.get 2=some (.ptr N 0)) (a3:r.get 3=some (.ptr (N+1) 0)) (a4:r.get 4=some (.ptr (N+2) 0)):
  Code A.C none A.jw ⟨r,34,[]⟩ ⟨H,n,W⟩ (fun e fr st=>e=.ret/\∃r',fr=⟨r',34,[]⟩/\r'.get 4=some (.ptr (N+2) 0)/\Vz H N (Rat.divInt a b) st):=by
 rw[bG];have o1:=eh hx;have o2:=eh hy;unfold V.one at o1 o2;have fin:∀r':T V,r'.get 2=some (.ptr N 0)->r'.get 3=some (.ptr (N+1) 0)->r'.get 4=some (.ptr (N+2) 0)->bD A.C [] (fy (A.C.code none A.pc ⟨r',34,[]⟩ ⟨H,n,W⟩)) (TI (fun e fr st=>e=.ret/\∃r',fr=⟨r',34,[]⟩/\r'.get 4=some (.ptr (N+2) 0)/\Vz H N (Rat.divInt a b) st)):=fun r' b2 b3 b4=>bG.1 (Xcf hn hW g1 g2 g3 hx hy hb la lb b2 b3 b4);have zr:=hy;rcases zr with⟨e0,_,_⟩|⟨i,o,l,c,e0,_,_⟩
 ·simp only[V.agg.injEq,jW,V.int.injEq,true_and,and_true]at e0;obtain⟨rfl,rfl⟩:=e0;by_cases c1:n2=1
  ·subst c1;simp[A.jw,a2,a3,a4,g1,g2,g3,aS,aO,ae,bz,bM,o1];have jS:¬N+2<N:=by omega
   refine⟨by simp[az,hW,jS],fun i hi=>?_,hn,n1,u1,1,.aa,by show T.get (T.set _ _ _) _=_;rw[T.ag,av rfl],n1,u1,1,.aa,rfl,?_,?_⟩
   ·show T.get (T.set _ _ _) _=_;rw[T.ag,ak (by omega)]
   ·rw[show (Rat.divInt a 1).num=a by rw[Rat.num_divInt];simp];exact hx.aG g3 qp rfl
   rw[show ((Rat.divInt a 1).den:Int)=1 by rw[Rat.den_divInt];simp];exact In.small (by decide) (by decide)
  simp[A.jw,a3,g2,aS,bz,c1];exact fin _ (by simp[a2]) (by simp[a3]) (by simp[a4])
 simp only[V.agg.injEq,jW,V.int.injEq,true_and,and_true]at e0;obtain⟨rfl,rfl⟩:=e0;simp[A.jw,a3,g2,aS,bz];exact fin _ (by simp[a2]) (by simp[a3]) (by simp[a4])
def Zx1(hx:In h N x a)(hy:In h N y b)(hb:b≠0)(la:wl a<10000000000)(lb:wl b<10000000000):Fn A.C 146 [x,y] h N (fun v h' n'=>Fc h' n' v (Rat.divInt a b)):=by
 intro w;rw[aP,A.k146 (by simp)];obtain⟨n1,u1,rfl,Aj⟩:=hx.cells;obtain⟨n2,u2,rfl,gp⟩:=hy.cells;have o1:=Aj;have o2:=gp;unfold V.one at o1 o2;have kB:ab h N (((h.set N (.cells [.int .i64 n1,u1] 99 true)).set (N+1) (.cells [.int .i64 n2,u2] 99 true)).set (N+2) (.cells [.int .i64 0,.aa,.int .i64 0,.aa] 101 true)) (N+3):=aQ (aQ (aQ ab.refl _) _) _;have done:∀(r:T V) (h1:T O) (m:Nat) (W1:List Nat) (a' b' jl jS:Int) (u1' u2':V),N+3<=m->az N W1=[]->(∀i,i<N->h1.get i=h.get i)->h1.get N=some (.cells [.int .i64 jl,u1'] 99 true)->h1.get (N+1)=some (.cells [.int .i64 jS,u2'] 99 true)->h1.get (N+2)=some (.cells [.int .i64 0,.aa,.int .i64 0,.aa] 101 true)->
   In h1 m (.agg [.int .i64 jl,u1']) a'->In h1 m (.agg [.int .i64 jS,u2']) b'->0<b'->wl a'<10000000000->wl b'<10000000000->Rat.divInt a' b'=Rat.divInt a b->r.get 2=some (.ptr N 0)->r.get 3=some (.ptr (N+1) 0)->r.get 4=some (.ptr (N+2) 0)->
   bD A.C [.fin [.cell 4 (some 4)] ⟨h,N,w⟩] (fy (A.C.code none A.jw ⟨r,34,[]⟩ ⟨h1,m,W1⟩)) (Fa (ay (fun v h' n'=>Fc h' n' v (Rat.divInt a b)) h N w)):=by
  intro r h1 m W1 a' b' jl jS u1' u2' hm Ua hO g1 g2 g3 i1 i2 wm HP Vj hq b2 b3 b4
  refine qV (Xce hm Ua g1 g2 g3 i1 i2 wm HP Vj b2 b3 b4) ?_
  rintro e fr ⟨H6,n6,W6⟩ ⟨rfl,r6,rfl,c4,q1,q2,q3,m1,v1,m2,v2,q4,q5⟩
  simp only at q1 q2 q3 q4 q5
  rw[hq]at q5
  simp[c4,q4,aS,aO,ay,q1]
  exact⟨⟨by omega,fun i hi=>(q2 i hi).trans (hO i hi)⟩,q5⟩
 simp[A.b146,aS,aO,o1,o2];generalize mG:((h.set N (.cells [.int .i64 n1,u1] 99 true)).set (N+1) (.cells [.int .i64 n2,u2] 99 true)).set (N+2) (.cells [.int .i64 0,.aa,.int .i64 0,.aa] 101 true)=hB at*;have b1:hB.get N=some (.cells [.int .i64 n1,u1] 99 true):=by rw[<-mG];simp
 have b2:hB.get (N+1)=some (.cells [.int .i64 n2,u2] 99 true):=by rw[<-mG];simp
 have b3:hB.get (N+2)=some (.cells [.int .i64 0,.aa,.int .i64 0,.aa] 101 true):=by rw[<-mG];simp
 refine au (Kj (hy.ad kB)) ?_;rintro _ h1 m1 k1 rfl;have kk:=kB.trans k1;have xS:=kk.le;have gT:=k1.le;have f1:=(k1.get N (by omega)).trans b1;have f2:=(k1.get (N+1) (by omega)).trans b2;have f3:=(k1.get (N+2) (by omega)).trans b3;by_cases hbn:b<0
 ·have s1:dB b= -1:=by unfold dB;rw[av hbn]
  have l1:N<m1:=by omega
  simp[s1,f1,l1,aS,aO];refine au (M7 (hx.ad kk) (by omega)) ?_;rintro _ h2 m2 k2 q1;obtain⟨n3,u3,rfl,Ng⟩:=q1.cells;have o3:=Ng;unfold V.one at o3;have jN:=k2.le;have f4:=(k2.get N (by omega)).trans f1;have f5:=(k2.get (N+1) (by omega)).trans f2;have f6:=(k2.get (N+2) (by omega)).trans f3;have l2:N+1<m2:=by omega
  simp[f5,l2,aS,aO];refine au (M7 ((hy.ad kk).ad k2) (by omega)) ?_;rintro _ h3 m3 k3 q2;obtain⟨n4,u4,rfl,Rj⟩:=q2.cells;have o4:=Rj;unfold V.one at o4;have jE:=k3.le;have f7:=(k3.get N (by omega)).trans f4;have f8:=(k3.get (N+1) (by omega)).trans f5;have f9:=(k3.get (N+2) (by omega)).trans f6;have l3:N+1<m3:=by omega
  have l4:N<m3:=by omega
  simp[f7,f8,l3,l4,ae,bM,o3,o4,c9.c_];have i1:=(q1.ad k3).aG (c1:=[.int .i64 n3,u3]) (e1:=99) (w1:=true) f7 hx.nu rfl;have i2:=q2.aG (c1:=[.int .i64 n3,u3]) (e1:=99) (w1:=true) f7 hx.nu rfl;have f8':((h3.set N (.cells [.int .i64 n3,u3] 99 true)):T O).get (N+1)=some (.cells [.int .i64 n2,u2] 99 true):=by rw[T.ag,ak (by omega)];exact f8
  have j1:=i1.aG (c1:=[.int .i64 n4,u4]) (e1:=99) (w1:=true) f8' hy.nu rfl;have j2:=i2.aG (c1:=[.int .i64 n4,u4]) (e1:=99) (w1:=true) f8' hy.nu rfl;have l5:¬N+1<N:=by omega
  exact done _ _ _ _ (-a) (-b) n3 n4 u3 u4 (by omega) (by simp[az,l5]) (fun i hi=>by rw[T.ag,ak (by omega),T.ag,ak (by omega),k3.get i (by omega),k2.get i (by omega),kk.get i hi]) (by rw[T.ag,ak (by omega),T.ag,av rfl]) (by rw[T.ag,av rfl]) (by rw[T.ag,ak (by omega),T.ag,ak (by omega)];exact f9) j1 j2 (by omega) (by rw[QS];exact la) (by rw[QS];exact lb) (Rat.neg_divInt_neg a b) (by simp) (by simp) (by simp)
 have s1:dB b=1:=by unfold dB;rw[ak hbn,ak hb]
 simp[s1];exact done _ _ _ _ a b n1 n2 u1 u2 (by omega) (by simp[az]) (fun i hi=>kk.get i hi) f1 f2 f3 (hx.ad kk) (hy.ad kk) (by omega) la lb rfl (by simp) (by simp) (by simp)
def A.b79:=A.q Tryz.f79
def A.k79:=@A.kk 79 16 [.cell 4 (some 4)] A.b79 (by kernel_rfl) rfl
def VA{p q:Rat}(hx:Fc h N x p)(hy:Fc h N y q)(l1:wl p.num<1000000000)(l2:wl (p.den:Nat)<1000000000)(l3:wl q.num<1000000000)(l4:wl (q.den:Nat)<1000000000):Fn A.C 79 [x,y] h N (fun v h' n'=>Fc h' n' v (p*q)):=by
 intro w;rw[aP,A.k79 (by simp)];obtain⟨n1,u1,n2,u2,rfl,s1,s2⟩:=hx;obtain⟨n3,u3,n4,u4,rfl,s3,s4⟩:=hy;have o1:=eh s1;have o2:=eh s2;have o3:=eh s3;have o4:=eh s4;unfold V.one at o1 o2 o3 o4;have kB:ab h N (((h.set N (.cells [.int .i64 n1,u1,.int .i64 n2,u2] 101 true)).set (N+1) (.cells [.int .i64 n3,u3,.int .i64 n4,u4] 101 true)).set (N+2) (.cells [.int .i64 0,.aa,.int .i64 0,.aa] 101 true)) (N+3):=aQ (aQ (aQ ab.refl _) _) _;simp[A.b79,aS,aO,o1,o2,o3,o4];generalize mG:((h.set N (.cells [.int .i64 n1,u1,.int .i64 n2,u2] 101 true)).set (N+1) (.cells [.int .i64 n3,u3,.int .i64 n4,u4] 101 true)).set (N+2) (.cells [.int .i64 0,.aa,.int .i64 0,.aa] 101 true)=hB at*;have b1:hB.get N=some (.cells [.int .i64 n1,u1,.int .i64 n2,u2] 101 true):=by rw[<-mG];simp
 have b2:hB.get (N+1)=some (.cells [.int .i64 n3,u3,.int .i64 n4,u4] 101 true):=by rw[<-mG];simp
 have b3:hB.get (N+2)=some (.cells [.int .i64 0,.aa,.int .i64 0,.aa] 101 true):=by rw[<-mG];simp
 refine au (FA (s1.ad kB) (s3.ad kB) (by omega) (by omega)) ?_;rintro v5 h1 m1 k1 q1;have gT:=k1.le;have f1:=(k1.get N (by omega)).trans b1;have f2:=(k1.get (N+1) (by omega)).trans b2;have f3:=(k1.get (N+2) (by omega)).trans b3;have e1:N<m1:=by omega
 have e2:N+1<m1:=by omega
 simp[f1,f2,e1,e2,aS,aO];refine au (FA ((s2.ad kB).ad k1) ((s4.ad kB).ad k1) (by omega) (by omega)) ?_;rintro v6 h2 m2 k2 q2;have jN:=k2.le;have f4:=(k2.get (N+2) (by omega)).trans f3;simp[];have hd:((p.den:Nat):Int)*((q.den:Nat):Int)≠0:=by have:=p.den_nz;have:=q.den_nz;exact Mm (by omega) (by omega)
 refine au (Zx1 (q1.ad k2) q2 hd ?_ ?_) ?_
 ·have:=Kp p.num q.num;omega
 ·have:=Kp ((p.den:Nat):Int) ((q.den:Nat):Int);omega
 rintro v7 h3 m3 k3 hv;rw[<-Rat.divInt_mul_divInt,A9,A9]at hv;obtain⟨n5,u5,n6,u6,rfl,t1,t2⟩:=hv;have o5:=eh t1;have o6:=eh t2;unfold V.one at o5 o6;have jE:=k3.le;have f5:=(k3.get (N+2) (by omega)).trans f4;have e3:N+2<m3:=by omega
 simp[f5,e3,aS,aO,ae,bM,o5,o6,c9.c_,ay];have kk:=((kB.trans k1).trans k2).trans k3;exact⟨kk.set (by omega),n5,u5,n6,u6,rfl,t1.aG (i:=N+2) f5 qp rfl,t2.aG (i:=N+2) f5 qp rfl⟩
def Yhm{q:Rat}(hx:Fc h N x q):Fn A.C 143 [x] h N (fun v _ _=>v=.bool (decide (q.den=1))):=by
 intro w;rw[aP,A.k143 (by simp)];obtain⟨n1,u1,n2,u2,rfl,s1,s2⟩:=hx;have o1:=eh s1;have o2:=eh s2;unfold V.one at o1 o2;rcases s2 with⟨e0,_,_⟩|⟨i,o,l,c,e0,_,hz⟩
 ·simp only[V.agg.injEq,jW,V.int.injEq,true_and,and_true]at e0;obtain⟨rfl,rfl⟩:=e0;by_cases c1:q.den=1
  ·have c2:((q.den:Nat):Int)=1:=by omega
   simp[A.b143,aS,o1,bz,c1,ay];exact aQ ab.refl _
  have c2:¬((q.den:Nat):Int)=1:=by omega
  simp[A.b143,aS,o1,bz,c1,c2,ay];exact aQ ab.refl _
 simp only[V.agg.injEq,jW,V.int.injEq,true_and,and_true]at e0;obtain⟨rfl,rfl⟩:=e0;have c1:¬q.den=1:=by omega
 simp[A.b143,aS,o1,bz,c1,ay];exact aQ ab.refl _
def A.b81:=A.q Tryz.f81
def A.k81:=@A.kk 81 16 [.tmp 2] A.b81 (by kernel_rfl) rfl
def YN{q:Rat}(hx:Fc h N x q)(hP:iT h N)(l1:(dC q.num.natAbs).length<1000000000)(l2:(dC q.den).length<1000000000):Fn A.C 81 [x] h N (fun v _ _=>v=.str (aI q)):=by
 intro w;rw[aP,A.k81 (by simp)];have jP:=hx;obtain⟨n1,u1,n2,u2,rfl,s1,s2⟩:=hx;have o1:=eh s1;have o2:=eh s2;unfold V.one at o1 o2;have kB:=aQ (ab.refl (h:=h) (n:=N)) (.cells [.int .i64 n1,u1,.int .i64 n2,u2] 101 true);simp[A.b81,aS,aO,o1,o2];generalize mG:h.set N (.cells [.int .i64 n1,u1,.int .i64 n2,u2] 101 true)=hB at*;have b1:hB.get N=some (.cells [.int .i64 n1,u1,.int .i64 n2,u2] 101 true):=by rw[<-mG];simp
 refine au (Yhm (jP.ad kB)) ?_;rintro _ h1 m1 k1 rfl;have gT:=k1.le;have f1:=(k1.get N (by omega)).trans b1;have kk:=kB.trans k1;by_cases c1:q.den=1
 ·simp[c1,f1,aS,aO];refine au (Vy (s1.ad kk) (hP.ad kk) (by omega)) ?_;rintro _ h2 m2 k2 rfl;simp[ay,aI,c1];exact kk.trans k2
 have l0:N<m1:=by omega
 simp[c1,f1,l0,aS,aO];refine au (Vy (s1.ad kk) (hP.ad kk) (by omega)) ?_;rintro _ h2 m2 k2 rfl;have jN:=k2.le;have Rp:=kk.trans k2;have f2:=(k2.get N (by omega)).trans f1;have l3:N<m2:=by omega
 have dq:IntKind.max .i64=9223372036854775807:=rfl;have hS1:(aM q.num).length<2000000000:=by
  have h1:(aq q.num.natAbs).length<=(dC q.num.natAbs).length+1:=by unfold aq;split<;>simp
  unfold aM;split<;>simp<;>omega
 have hS2:(aq q.den).length<2000000000:=by
  have h1:(aq q.den).length<=(dC q.den).length+1:=by unfold aq;split<;>simp
  omega
 have nN:aI q=aM q.num++47::aq q.den:=by unfold aI;rw[ak c1]
 have hdI:aM ((q.den:Nat):Int)=aq q.den:=by unfold aM;rw[ak (by omega)];rfl
 rw[nN];generalize aM q.num=S1 at*;have g1:¬(9223372036854775807:Int)<(S1.length:Int)+1:=by omega
 simp[f2,l3,jJ,dq,g1,aS,aO];refine au (Vy (s2.ad Rp) (hP.ad Rp) (by rw[dT];omega)) ?_;rintro _ h3 m3 k3 rfl;rw[hdI];generalize aq q.den=S2 at*;have g2:¬(9223372036854775807:Int)<(S1.length:Int)+1+(S2.length:Int):=by omega
 simp[jJ,dq,g2,c9.c_,ay];exact Rp.trans k3
def A.w64:=A.q Tryz.f64
def A.ye:=A.qt A.w64 [] [] [1,1]
def A.b64:=(fun y0=>A.qt A.w64 [] [([1,1],y0)] []) A.ye
def A.k64:=@A.kk 64 34 [.cell 4 (some 4)] A.b64 (by kernel_rfl) rfl
def Zog{q:Rat}(h:q.den=1):q=(q.num:Rat):=by
 apply Rat.ext
 ·simp
 simp[h]
def Xau{p q:Rat}{n3 n4:Int}{u3 u4:V}(hn:N+3<=n)(hW:az N W=[])(b1:H.get N=some (.cells [.int .i64 n1,u1,.int .i64 n2,u2] 101 true))(b2:H.get (N+1)=some (.cells [.int .i64 n3,u3,.int .i64 n4,u4] 101 true))(b3:H.get (N+2)=some (.cells [.int .i64 0,.aa,.int .i64 0,.aa] 101 true))
  (s1:In H n (.agg [.int .i64 n1,u1]) p.num) (s2:In H n (.agg [.int .i64 n2,u2]) (p.den:Nat)) (s3:In H n (.agg [.int .i64 n3,u3]) q.num) (s4:In H n (.agg [.int .i64 n4,u4]) (q.den:Nat)) (l1:wl p.num<1000000000) (l2:wl (p.den:Nat)<1000000000) (l3:wl q.num<1000000000) (l4:wl (q.den:Nat)<1000000000) (a2:r.get 2=some (.ptr N 0)) (a3:r.get 3=some (.ptr (N+1) 0)) (a4:r.get 4=some (.ptr (N+2) 0)):
  Code A.C none A.ye ⟨r,34,[]⟩ ⟨H,n,W⟩ (fun e fr st=>e=.ret/\∃r',fr=⟨r',34,[]⟩/\r'.get 4=some (.ptr (N+2) 0)/\Vz H N (p+q) st):=by
 rw[bG];have o1:=eh s1;have o2:=eh s2;have o3:=eh s3;have o4:=eh s4;unfold V.one at o1 o2 o3 o4;have z1:N<n:=by omega
 have z2:N+1<n:=by omega
 simp[A.ye,a2,a3,b1,b2,z1,z2,aS,aO];refine au (FA s1 s4 (by omega) (by omega)) ?_;rintro v5 h1 m1 k1 q1;have gT:=k1.le;have f1:=(k1.get N (by omega)).trans b1;have f2:=(k1.get (N+1) (by omega)).trans b2;have f3:=(k1.get (N+2) (by omega)).trans b3;have e1:N<m1:=by omega
 have e2:N+1<m1:=by omega
 simp[a2,a3,f1,f2,e1,e2,aS,aO];refine au (FA (s3.ad k1) (s2.ad k1) (by omega) (by omega)) ?_;rintro v6 h2 m2 k2 q2;have jN:=k2.le;have w1:=Kp p.num ((q.den:Nat):Int);have w2:=Kp q.num ((p.den:Nat):Int);have w3:=Kp ((p.den:Nat):Int) ((q.den:Nat):Int);have w4:=Yet (p.num*((q.den:Nat):Int)) (q.num*((p.den:Nat):Int));simp[];refine au (QY (q1.ad k2) q2 (by omega) (by omega)) ?_;rintro v7 h3 m3 k3 q3;have jE:=k3.le;have k13:=(k1.trans k2).trans k3;have f4:=(k13.get N (by omega)).trans b1;have f5:=(k13.get (N+1) (by omega)).trans b2;have e3:N<m3:=by omega
 have e4:N+1<m3:=by omega
 simp[a2,a3,f4,f5,e3,e4,aS,aO];refine au (FA (s2.ad k13) (s4.ad k13) (by omega) (by omega)) ?_;rintro v8 h4 m4 k4 q4;have xY:=k4.le;have k14:=k13.trans k4;have hd:((p.den:Nat):Int)*((q.den:Nat):Int)≠0:=by have:=p.den_nz;have:=q.den_nz;exact Mm (by omega) (by omega)
 simp[];refine au (Zx1 (q3.ad k4) q4 hd (by omega) (by omega)) ?_;rintro v9 h5 m5 k5 hv;have uZ:((p.den:Nat):Int)≠0:=by have:=p.den_nz;omega
 have w_:((q.den:Nat):Int)≠0:=by have:=q.den_nz;omega
 rw[<-Rat.divInt_add_divInt _ _ uZ w_,A9,A9]at hv;obtain⟨n5,u5,n6,u6,rfl,t1,t2⟩:=hv;have o5:=eh t1;have o6:=eh t2;unfold V.one at o5 o6;have KH:=k5.le;have k15:=k14.trans k5;have f6:=(k15.get (N+2) (by omega)).trans b3;have e5:N+2<m5:=by omega
 simp[a4,f6,e5,ae,bM,o5,o6,c9.c_];have jS:¬N+2<N:=by omega
 refine⟨by simp[az,hW,jS],fun i hi=>?_,by show N+3<=m5;omega,n5,u5,n6,u6,by show T.get (T.set _ _ _) _=_;rw[T.ag,av rfl],n5,u5,n6,u6,rfl,t1.aG (i:=N+2) f6 qp rfl,t2.aG (i:=N+2) f6 qp rfl⟩;show T.get (T.set _ _ _) _=_;rw[T.ag,ak (by omega),k15.get i (by omega)]
def Y6{p q:Rat}(hx:Fc h N x p)(hy:Fc h N y q)(l1:wl p.num<1000000000)(l2:wl (p.den:Nat)<1000000000)(l3:wl q.num<1000000000)(l4:wl (q.den:Nat)<1000000000):Fn A.C 64 [x,y] h N (fun v h' n'=>Fc h' n' v (p+q)):=by
 intro w;rw[aP,A.k64 (by simp)];have jP:=hx;have zr:=hy;obtain⟨n1,u1,n2,u2,rfl,s1,s2⟩:=hx;obtain⟨n3,u3,n4,u4,rfl,s3,s4⟩:=hy;have o1:=eh s1;have o2:=eh s2;have o3:=eh s3;have o4:=eh s4;unfold V.one at o1 o2 o3 o4;have kB:ab h N (((h.set N (.cells [.int .i64 n1,u1,.int .i64 n2,u2] 101 true)).set (N+1) (.cells [.int .i64 n3,u3,.int .i64 n4,u4] 101 true)).set (N+2) (.cells [.int .i64 0,.aa,.int .i64 0,.aa] 101 true)) (N+3):=aQ (aQ (aQ ab.refl _) _) _;simp[A.b64,aS,aO,o1,o2,o3,o4];generalize mG:((h.set N (.cells [.int .i64 n1,u1,.int .i64 n2,u2] 101 true)).set (N+1) (.cells [.int .i64 n3,u3,.int .i64 n4,u4] 101 true)).set (N+2) (.cells [.int .i64 0,.aa,.int .i64 0,.aa] 101 true)=hB at*;have b1:hB.get N=some (.cells [.int .i64 n1,u1,.int .i64 n2,u2] 101 true):=by rw[<-mG];simp
 have b2:hB.get (N+1)=some (.cells [.int .i64 n3,u3,.int .i64 n4,u4] 101 true):=by rw[<-mG];simp
 have b3:hB.get (N+2)=some (.cells [.int .i64 0,.aa,.int .i64 0,.aa] 101 true):=by rw[<-mG];simp
 refine au (Yhm (jP.ad kB)) ?_;rintro _ h0 m0 k0 rfl;have zbO:=k0.le;have k0':=kB.trans k0;have d1:=(k0.get N (by omega)).trans b1;have d2:=(k0.get (N+1) (by omega)).trans b2;have d3:=(k0.get (N+2) (by omega)).trans b3;by_cases cp:p.den=1
 ·simp[cp,d2,aS,aO];refine au (Yhm (zr.ad k0')) ?_;rintro _ h1 m1 k1 rfl;have gT:=k1.le;have g1:=(k1.get N (by omega)).trans d1;have g2:=(k1.get (N+1) (by omega)).trans d2;have g3:=(k1.get (N+2) (by omega)).trans d3;have k1':=k0'.trans k1;by_cases cq:q.den=1
  ·simp[cq,g1,g2,aS,aO];refine au (QY (s1.ad k1') (s3.ad k1') (by omega) (by omega)) ?_;rintro v5 h2 m2 k2 q1;have jN:=k2.le;simp[];refine au (Zse q1) ?_;rintro _ h3 m3 k3 ⟨n5,u5,n6,u6,rfl,t1,t2⟩;have o5:=eh t1;have o6:=eh t2;unfold V.one at o5 o6;have jE:=k3.le;have f5:=(k3.get (N+2) (by omega)).trans ((k2.get (N+2) (by omega)).trans g3);simp[f5,aS,aO,ae,bM,o5,o6,ay];have kk:=(k1'.trans k2).trans k3;have VB:p+q=((p.num+q.num:Int):Rat):=by rw[Zog cp,Zog cq];simp
   rw[VB];exact⟨kk.set (by omega),n5,u5,n6,u6,rfl,t1.aG (i:=N+2) f5 qp rfl,t2.aG (i:=N+2) f5 qp rfl⟩
  simp[cq];refine qV (Xau (N:=N) (p:=p) (q:=q) (by omega) (by simp[az]) g1 g2 g3 (s1.ad k1') (s2.ad k1') (s3.ad k1') (s4.ad k1') l1 l2 l3 l4 (by simp) (by simp) (by simp)) ?_;rintro e fr ⟨H6,n6,W6⟩ ⟨rfl,r6,rfl,c4,q1,q2,q3,m5,v5,m6,v6,q4,q5⟩;simp only at q1 q2 q3 q4 q5;simp[c4,q4,aS,aO,ay,q1];exact⟨⟨by omega,fun i hi=>(q2 i hi).trans (k1'.get i hi)⟩,q5⟩
 simp[cp];refine qV (Xau (N:=N) (p:=p) (q:=q) (by omega) (by simp[az]) d1 d2 d3 (s1.ad k0') (s2.ad k0') (s3.ad k0') (s4.ad k0') l1 l2 l3 l4 (by simp) (by simp) (by simp)) ?_;rintro e fr ⟨H6,n6,W6⟩ ⟨rfl,r6,rfl,c4,q1,q2,q3,m5,v5,m6,v6,q4,q5⟩;simp only at q1 q2 q3 q4 q5;simp[c4,q4,aS,aO,ay,q1];exact⟨⟨by omega,fun i hi=>(q2 i hi).trans (k0'.get i hi)⟩,q5⟩
end
end Go.Mx
