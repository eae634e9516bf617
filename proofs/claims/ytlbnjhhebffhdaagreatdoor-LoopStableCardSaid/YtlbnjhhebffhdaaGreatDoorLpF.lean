/-loop-/
import Derived.Test.YtlbnjhhebffhdaaGreatDoorVaE
set_option linter.all false
set_option maxHeartbeats 4000000
namespace Go.Mx
noncomputable section
open Go Go.Proofs
variable {N:Nat} {h:T O}
set_option maxRecDepth 1000000
def A.Nc:=A.q Tryz.f211
def A.pQ:=A.ql A.Nc 0 []
def A.b211:=(fun x0=>A.qb A.Nc [x0]) A.pQ
def A.k211:=@A.kk 211 19 [.tmp 4] A.b211 (by kernel_rfl) rfl
def Yny{v f:V}(l:List (List V))(p:Nat->Bool)(hs:Sn 4 h N v l)(hl:l.length<1152921504606846976)(hf:∀(j:Nat) (x:List V),l[j]?=some x->∀h' n',ah h N h' n'->FnV A.C f [.agg x] h' n' (fun u _ _=>u=.bool (p j))):Fn A.C 211 [v,f] h N (fun u _ _=>u=.int .i64 (wK p 0 l.length)):=by
 intro w;have hlen:=hs.len;rw[aZ,A.k211 (by simp)];simp[A.b211,hlen];refine Zal [(4,5),(8,18)] (fun e r st=>aL N st.w=[]/\ah h N st.h st.n/\((e=.exit 0/\wK p 0 l.length= -1)\/(e=.ret/\r.get 4=some (.int .i64 (wK p 0 l.length))))) (fun m r st=>aL N st.w=[]/\ah h N st.h st.n/\∃k,k+m=l.length/\r.get 8=some (.int .i64 k)/\wK p 0 l.length=wK p k m) l.length ?_ ?_ ?_
 ·exact⟨by simp,ah.refl,0,by omega,by simp,rfl⟩
 ·rintro m r ⟨H,n1,W⟩ hr ik ⟨hW,hK,k,hk,h8,hz⟩;simp only at hW hK;rw[cn];cases m with
  |zero=>
   have:k=l.length:=by omega
   subst this;simp only[wK]at hz;simp[A.pQ,hr,ik,h8,hW,hK,hz]
  |succ m=>
   have aW:k<l.length:=by omega
   obtain⟨c,hc⟩:=eQ aW;obtain⟨i,o,cc,e,rw,q1,q2,q3,q4⟩:=hs.at hc;have q3:=(hK.get _ q2).trans q3;have hk1:(k:Int)<(l.length:Int):=by omega
   simp only[wK]at hz;simp[A.pQ,hr,h8,hk1,hlen,q1,q3,q4];refine Ymf (hf k c hc _ _ hK) ?_;rintro v h2 n2 k2 rfl;have kk:=hK.trans k2;cases hp:p k
   ·rw[hp]at hz;simp(disch:=first|(simp;done)|omega|rfl) [ik,h8,hW,kk];exact⟨m,by omega,k+1,by omega,by simp,by simpa using hz⟩
   rw[hp]at hz;simp[ik,hW,kk];simpa using hz.symm
 rintro e r ⟨H,n1,W⟩ hr ⟨hW,hK,⟨rfl,hz⟩|⟨rfl,h4⟩⟩
 ·simp only at hW hK;simp[hz,Ret,hW,hK]
 simp only at hW hK;simp[h4,Ret,hW,hK]
def A.b152:=A.q Tryz.f152
def A.k152:=@A.kk 152 9 [.tmp 4] A.b152 (by kernel_rfl) rfl
def A.b77:=A.q Tryz.f77
def A.k77:=@A.kk 77 8 [.tmp 2,.tmp 3] A.b77 (by kernel_rfl) rfl
def A.b83:=A.q Tryz.f83
def A.k83:=@A.kk 83 8 [.tmp 2,.tmp 3] A.b83 (by kernel_rfl) rfl
def Yjo{v f:V}(l:List (List V))(p:Nat->Bool)(hs:Sn 4 h N v l)(hl:l.length<1152921504606846976)(hf:∀(j:Nat) (x:List V),l[j]?=some x->∀h' n',ah h N h' n'->FnV A.C f [.agg x] h' n' (fun u _ _=>u=.bool (p j))):Fn A.C 152 [v,f] h N (fun u _ _=>u=.bool (decide (0<=wK p 0 l.length))):=by intro w;rw[aZ,A.k152 (by simp)];simp[A.b152];refine av (Yny l p hs hl hf) ?_;rintro v h2 n2 k2 rfl;simp[Ret,k2]
def Yaq{l:List Rat}:decide (0<=wK (fun j=>vk (l[j]?.getD 0)) 0 l.length)=BB l:=by
 rw[Bool.eq_iff_iff,decide_eq_true_eq,Zs7];unfold BB;rw[List.any_eq_true];constructor
 ·rintro⟨j,_,h2,h3⟩;obtain⟨q,hq⟩:=eQ (l:=l) (k:=j) (by omega);rw[hq]at h3;exact⟨q,eI hq,h3⟩
 rintro⟨q,hq,h3⟩;obtain⟨j,hj⟩:=Nd hq;exact⟨j,tR _,by have:=yz hj;omega,by rw[hj];exact h3⟩
def Yg3{h:T O}{N:Nat}{u:V}{l:List Rat}{k:Nat}(hu:mV h N u l)(hP:j_ h N)(hl:l.length<1000000000)(hq:∀q∈l,Qb k q)(hk:k<=400000000):Fn A.C 77 [u] h N (fun x h' n'=>(BB l=true/\x=.aX [.ziA,.int .i64 4])\/(BB l=false/\∃v,x=.aX [v,.int .i64 0]/\TxT h' n' v l)):=by
 intro w;obtain⟨cs,s1,s2,s3⟩:=id hu;have key:=Yjo (f:=.func 153 [] []) cs (fun j=>vk (l[j]?.getD 0)) s1 (by omega) (fun j x hx h' n' jO=>by
  obtain⟨q,hqj⟩:=eQ (l:=l) (k:=j) (by have:=yz hx;omega)
  obtain⟨c,g1,g2⟩:=s3 j q hqj
  rw[hx]at g1
  obtain rfl:x=c:=by simpa using g1
  simp only[hqj,C8]
  exact Zs6 (g2.ai jO).fc (hP.ai jO) (hq q (eI hqj)) (by omega));rw[s2,Yaq]at key;rw[aZ,A.k77 (by simp)];simp(disch:=first|(simp;done)|omega|rfl) [-getElem?_pos,A.b77];refine av key ?_;rintro _ h2 n2 k2 rfl;cases hb:BB l with
 |true=> simp(disch:=first|(simp;done)|omega|rfl) [-getElem?_pos,Ret];exact k2
 |false=> simp(disch:=first|(simp;done)|omega|rfl) [-getElem?_pos,];refine av (Yg7 (k0:=k) (hu.ai k2) (hP.ai k2) hl hq hk) ?_;rintro v h3 n3 k3 t1;simp(disch:=first|(simp;done)|omega|rfl) [-getElem?_pos,Ret];exact⟨k2.trans k3,t1⟩
def Ycq{h:T O}{N k:Nat}{x:V}{q:Rat}(hx:Fc h N x q)(hP:j_ h N)(hq:Qb k q)(hk:k<=400000000):Fn A.C 83 [x] h N (fun v _ _=>v=if vk q=true then .aX [.str [],.int .i64 4] else .aX [.str (Zao q),.int .i64 0]):=by
 intro w;rw[aZ,A.k83 (by simp)];obtain⟨n1,u1,n2,u2,rfl,s1,s2⟩:=hx;have o1:=Zaj s1;have o2:=Zaj s2;unfold V.one at o1 o2;have kB:ah h N (h.set N (.cells [.int .i64 n1,u1,.int .i64 n2,u2] 102 true)) (N+1):=aO ah.refl _;have b0:(h.set N (.cells [.int .i64 n1,u1,.int .i64 n2,u2] 102 true)).get N=some (.cells [.int .i64 n1,u1,.int .i64 n2,u2] 102 true):=by simp
 simp(disch:=first|(simp;done)|omega|rfl) [-getElem?_pos,A.b83,aI,aK,o1,o2];generalize gb:h.set N (.cells [.int .i64 n1,u1,.int .i64 n2,u2] 102 true)=hB at*;clear gb;have hx:Fc hB (N+1) (.agg [.int .i64 n1,u1,.int .i64 n2,u2]) q:=⟨n1,u1,n2,u2,rfl,s1.ai kB,s2.ai kB⟩;have R8:=hP.ai kB;have lg:=Zs6 hx R8 hq hk;refine av lg ?_;rintro _ h2 m2 k2 rfl;have oH:=k2.le;have f2:=(k2.get N (by omega)).trans b0;have e2:N<m2:=by omega
 cases hb:vk q with
 |true=> simp(disch:=first|(simp;done)|omega|rfl) [-getElem?_pos,Ret];exact kB.trans k2
 |false=> simp(disch:=first|(simp;done)|omega|rfl) [-getElem?_pos,f2,e2,aI,aK];refine av (Yb0 (hx.ai k2) (R8.ai k2) (by have:=HT hq.1;omega) (by have:=HT hq.2;omega)) ?_;rintro _ h3 m3 k3 rfl;simp(disch:=first|(simp;done)|omega|rfl) [-getElem?_pos,Ret];exact(kB.trans k2).trans k3
def sR(f:Nat->Rat):Nat->Rat
 |0=>0
 |n+1=>sR f n+f n
def il{f g:Nat->Rat}:∀{n:Nat},(∀k,k<n->f k=g k)->sR f n=sR g n
 |0,_=>rfl
 |n+1,h=>by unfold sR;rw[il fun k hk=>h k (by omega),h n (by omega)]
def HW{f:Nat->Rat}:∀{n:Nat},sR (fun k=>f (k+1)) n+f 0=sR f (n+1)
 |0=>by simp[sR]
 |n+1=>by
  have:=HW (f:=f) (n:=n)
  unfold sR at this ⊢
  unfold sR
  grind
def R9{f:Nat->Rat}:∀{n:Nat},sR (fun k=>f (n-1-k)) n=sR f n
 |0=>rfl
 |n+1=>by
  have h1:=HW (f:=fun k=>f (n+1-1-k)) (n:=n)
  have h2:=R9 (f:=f) (n:=n)
  have h3:sR (fun k=>f (n+1-1-(k+1))) n=sR (fun k=>f (n-1-k)) n:=il fun k hk=>by
   show f (n+1-1-(k+1))=f (n-1-k)
   congr 1;omega
  rw[<-h1,h3,h2]
  show sR f n+f (n+1-1-0)=sR f n+f n
  rw[show n+1-1-0=n from by omega]
def Ay{f g:Nat->Rat}{r:Rat}:∀{n:Nat},sR (fun k=>f k-r*g k) n=sR f n-r*sR g n
 |0=>by
  show (0:Rat)=0-r*0
  grind
 |n+1=>by
  have:=Ay (f:=f) (g:=g) (r:=r) (n:=n)
  unfold sR
  grind
def A.b84:=A.q Tryz.f84
def A.k84:=@A.kk 84 9 [.tmp 4] A.b84 (by kernel_rfl) rfl
def Yz8{a b:Rat}{j k:Nat}{h:T O}{N:Nat}(ha:Qb j a)(hb:Qb k b)(h0:b≠0)(hj:j<=400000000)(hk:k<=400000000):Fn A.C 84 [.str (Zao a),.str (Zao b)] h N (fun u _ _=>u=.str (Zao (a/b))):=by intro w;rw[aZ,A.k84 (by simp)];simp(disch:=first|(simp;done)|omega|rfl) [-getElem?_pos,A.b84];refine av (Xc6 hb hk h0) ?_;rintro _ h1 n1 k1 rfl;simp(disch:=first|(simp;done)|omega|rfl) [-getElem?_pos,];refine av (SP ha (hb.inv h0) hj hk) ?_;rintro _ h2 n2 k2 rfl;rw[<-Rat.div_def];simp(disch:=first|(simp;done)|omega|rfl) [-getElem?_pos,Ret];exact k1.trans k2
def Zuo{q:Rat}{st:St}(hl:(Zao q).length<1000000000):A.C.call (.func 34 [] []) [.str (Zao q)] st=some (.str (Zao (zgb q)),st):=by
 have hs:=fun st=>HY (q:=q) (st:=st);apply Call.eq;rw[aZ,A.k34 (by simp)];by_cases hz:q<0
 ·have Sa:=hz;rw[show q<0↔q.num<0 from by rw[Rat.lt_iff];simp]at Sa;have h1:=wL.2 hz;have e1:Zao q=45::QB q:=by rw[xH,aR Sa]
  have e2:Zao (zgb q)=QB q:=by have:zgb q= -q:=aR hz;rw[this,xH,aA (by rw[Rat.neg_num];omega),Ylm]
  rw[e2];rw[e1]at hs hl;have a3:∀st:St,pR st (some (.str (45::QB q))) (some (some (.int .i64 1))) (some none)=some (.str (QB q),st):=fun st=>by rw[BC (by omega) (by simp only[bC];omega)];rfl
  rw[e1];simp(disch:=first|(simp;done)|omega|rfl) [-getElem?_pos,A.b34,hs,h1,aH,a3]
 have h1:¬sg3 q.num<0:=fun hc=>hz (wL.1 hc);have e2:zgb q=q:=aA hz;rw[e2];simp(disch:=first|(simp;done)|omega|rfl) [-getElem?_pos,A.b34,hs,h1]
def A.w15:=A.q Tryz.f15
def A.zgN:=A.ql A.w15 1 []
def A.zgO:=(fun x0=>A.ql A.w15 0 [x0]) A.zgN
def A.b15:=(fun x0=>A.qb A.w15 [x0]) A.zgO
def A.k15:=@A.kk 15 49 [.tmp 2] A.b15 (by kernel_rfl) rfl
structure Xec (h:T O) (N:Nat) (l:List Rat) (k m:Nat) (r:T V) (st:St):Prop where
 w:aL N st.w=[]
 ai:ah h N st.h st.n
 ex:∃(v:V) (p:List Rat),r.get 0=some v/\Tx st.h st.n v p/\p.length=m+1/\m+1<=l.length/\pg p m≠0/\(∀q∈p,Qb (k*5^(l.length-1-m)) q)/\mW (m+1) p=mW l.length l
def Xad{h:T O}{N k:Nat}{v:V}{l:List Rat}(hs:Tx h N v l)(h1:1<=l.length)(hl:l.length<=13)(h0:pg l (l.length-1)≠0)(hq:∀q∈l,Qb k q)(hk:1<=k)(jZ:k*5^(l.length-1)<=200000000):Fn A.C 15 [v] h N (fun x _ _=>x=.bool (mW l.length l)):=by
 intro w;rw[aZ,A.k15 (by simp)];simp(disch:=first|(simp;done)|omega|rfl) [-getElem?_pos,A.b15];refine Zal [(0,0),(2,48)] (fun e r st=>aL N st.w=[]/\ah h N st.h st.n/\((e=.exit 0/\mW l.length l=true)\/(e=.ret/\mW l.length l=false/\r.get 2=some (.bool false)))) (Xec h N l k) (l.length-1) ?_ ?_ ?_
 ·refine⟨by simp,ah.refl,v,l,by simp,hs,by omega,by omega,h0,fun q hm=>?_,by rw[show l.length-1+1=l.length from by omega]⟩;rw[Nat.sub_self,AF,wP];exact hq q hm
 ·rintro m r ⟨H,n1,W⟩ hr hf ⟨hW,hK,v,p,r0,hp,pl,pll,pz,pq,ps⟩;simp only at hW hK hp;have lv:=hp.len;rw[pl]at lv;have zS:Sl H n1 v (tx p):=hp;rw[cn];cases m with
  |zero=> rw[Ypz (by omega)]at ps;simp(disch:=first|(simp;done)|omega|rfl) [-getElem?_pos,A.zgO,hr,hf,r0,lv,hW,hK,<-ps]
  |succ m=>
   obtain⟨i0,o0,x0,e0,w0,a1,a2,a3,a4⟩:=zS.at (Ykf (iy (p:=p) (i:=0) (by omega)));obtain⟨i1,o1,x1,e1,w1,b1,b2,b3,b4⟩:=zS.at (Ykf (iy (p:=p) (i:=m+1) (by omega)));rw[a1]at b1;obtain⟨rfl,rfl⟩:i0=i1/\o0=o1:=by simpa using b1
   rw[a3]at b3;obtain⟨rfl,rfl,rfl⟩:x0=x1/\e0=e1/\w0=w1:=by simpa using b3
   rw[mY]at a4;have g1:(1:Int)<(m:Int)+1+1:=by omega
   have g6:(m:Int)+1<(m:Int)+1+1:=by omega
   have g7:(0:Int)<(m:Int)+1+1:=by omega
   have g8:(0:Int)<=(m:Int)+1:=by omega
   have g9:((m:Int)+1).toNat=m+1:=by omega
   have g2:((m+1+1:Nat):Int)-1<((m+1+1:Nat):Int):=by omega
   have g3:(((m+1+1:Nat):Int)-1).toNat=m+1:=by omega
   have g4:(0:Int)<((m+1+1:Nat):Int):=by omega
   have g5:(0:Int)<=((m+1+1:Nat):Int)-1:=by omega
   have ud:k*5^(l.length-1-(m+1))*5=k*5^(l.length-1-m):=by rw[AG,<-fV];congr 2;omega
   have hB1:k*5^(l.length-1-m)<=200000000:=p9 (jh k (Ywo (by omega) (by omega))) jZ;have Sz:1<=k*5^(l.length-1-(m+1)):=xM hk (vu (by omega));generalize hB:k*5^(l.length-1-(m+1))=B at*;have pz':pg p (p.length-1)≠0:=by rw[pl];exact pz
   have ql:=Ymz (by omega) Sz pz' pq;have qr:=Zw1 (by omega) pz' pq;have qa:=pq _ (eI (iy (p:=p) (i:=0) (by omega)));have qb:=pq _ (eI (iy (p:=p) (i:=m+1) (by omega)));have er:pg p 0/pg p (m+1)=Yz0 p:=by unfold Yz0;rw[pl];rfl
   simp(disch:=first|(simp;done)|omega|rfl) [-getElem?_pos,A.zgO,hr,hf,r0,lv,a1,a2,a3,a4,b4,g1,g2,g3,g4,g5,g6,g7,g8,g9];refine av (Yz8 qa qb pz (by omega) (by omega)) ?_;rintro _ h2 n2 k2 rfl;rw[er];have ze8:Qb (B+B) (zgb (Yz0 p)):=by
    unfold zgb;split
    ·exact qr.neg
    exact qr
   have la:=SN qr;have ra:=fun st=>Zuo (q:=Yz0 p) (st:=st) (by omega);have hc:=KX (a:=zgb (Yz0 p)) (b:=1) (k:=1) (h:=h2) (N:=n2) ze8 (by unfold Qb;decide) (by omega) (by decide) (by rw[Yts];decide);rw[Yts]at hc;simp(disch:=first|(simp;done)|omega|rfl) [-getElem?_pos,hr,hf,b_.chk,ra];refine av hc ?_;rintro _ h3 n3 k3 rfl;have ec:(0<=sg3 (zgb (Yz0 p)-1).num)↔1<=zgb (Yz0 p):=by
    have h1:zgb (Yz0 p)<1↔zgb (Yz0 p)-1<0:=by grind
    rw[<-Rat.not_lt,h1,<-wL];omega
   generalize sg3 (zgb (Yz0 p)-1).num=cz at*;have K3:=(hK.trans k2).trans k3;have ps2:mW (m+1+1) p=if 1<=zgb (Yz0 p) then false else mW (m+1) (gh p):=by
    conv=>lhs;unfold mW
    rw[aA (by omega)]
   rw[ps2]at ps;by_cases cc:1<=zgb (Yz0 p)
   ·have Am:=ec.2 cc;rw[aR cc]at ps;simp(disch:=first|(simp;done)|omega|rfl) [-getElem?_pos,hr,hf,r0,Am,hW,K3,<-ps]
   have Am:¬0<=cz:=fun h=>cc (ec.1 h);rw[aA cc]at ps;have lt1:zgb (Yz0 p)<1:=Rat.not_le.1 cc;have Nx:=hK.le;have hp3:Sl h3 n3 v (tx p):=(zS.ai k2).ai k3;have nl:(gh p).length=m+1:=by rw[BK,pl];rfl
   simp(disch:=first|(simp;done)|omega|rfl) [-getElem?_pos,hr,hf,r0,Am];refine Zal [(5,6),(25,47)] (fun e r st=>e=.exit 2/\aL N st.w=[]/\ah h3 n3 st.h st.n/\∃u,r.get 5=some u/\Tx st.h st.n u (gh p)) (fun i r st=>aL N st.w=[]/\ah h3 n3 st.h st.n/\∃(t:Nat) (u:V),t+i=m+1/\r.get 6=some (.int .i64 t)/\r.get 5=some u/\Own 1 30 n3 st.h st.n u ((tx ((gh p).take t)).map fun y=>[y])) (m+1) ?_ ?_ ?_
   ·exact⟨hW,ah.refl,0,.ziA,by omega,by simp,by simp,by simpa[tx,strs]using Own.nil⟩
   ·rintro i r' ⟨H7,n7,W7⟩ lV rF ⟨MS,Bs,t,u,ht,r6,r5,ho⟩;simp only at MS Bs ho;rw[cn];cases i with
    |zero=>
     obtain rfl:t=m+1:=by omega
     rw[jP (by omega)]at ho;simp(disch:=first|(simp;done)|omega|rfl) [-getElem?_pos,A.zgN,lV,rF,hr,hf,r6,MS,Bs];exact⟨u,r5,(Xa9 ho).1⟩
    |succ i=>
     have zij:(t:Int)<(m:Int)+1:=by omega
     have hp7:=hp3.ai Bs;have lv7:=hp7.len;rw[Sb,pl]at lv7;have le7:=Bs.le;obtain⟨j0,u0,y0,z0,q0,b1,b2,b3,b4⟩:=hp7.at (Ykf (iy (p:=p) (i:=t+1) (by omega)));obtain⟨j1,u1,y1,z1,q1,x1,x2,x3,x4⟩:=hp7.at (Ykf (iy (p:=p) (i:=m-t) (by omega)));rw[b1]at x1;obtain⟨rfl,rfl⟩:j0=j1/\u0=u1:=by simpa using x1
     rw[b3]at x3;obtain⟨rfl,rfl,rfl⟩:y0=y1/\z0=z1/\q0=q1:=by simpa using x3
     have i1:(0:Int)<=(t:Int)+1:=by omega
     have i2:(t:Int)+1<(m:Int)+1+1:=by omega
     have i3:((t:Int)+1).toNat=t+1:=by omega
     have i4:(0:Int)<=(m:Int)-t:=by omega
     have i5:(m:Int)-t<(m:Int)+1+1:=by omega
     have i6:((m:Int)-t).toNat=m-t:=by omega
     have bx:=pq _ (eI (iy (p:=p) (i:=t+1) (by omega)));have by_:=pq _ (eI (iy (p:=p) (i:=m-t) (by omega)));have bm:=qr.mul by_;have lm:=SN bm;simp(disch:=first|(simp;done)|omega|rfl) [-getElem?_pos,A.zgN,lV,rF,hr,hf,r0,r6,r5,zij,lv7,b1,b2,b3,b4,x4,i1,i2,i3,i4,i5,i6];refine av (SP qr by_ (by omega) (by omega)) ?_;rintro _ h8 n8 k8 rfl;simp(disch:=first|(simp;done)|omega|rfl) [-getElem?_pos,];refine av (NF bx bm (by omega) (by omega) (by omega)) ?_;rintro _ h9 n9 k9 rfl;have en:pg p (t+1)-Yz0 p*pg p (m-t)=pg (gh p) t:=by rw[La (by omega),pl,show m+1+1-1-1-t=m-t from by omega]
     rw[en];have K9:=k8.trans k9;have le9:=K9.le;obtain⟨u',h',w',j1',j2',SE,_,j5'⟩:=Bj (x:=[.str (Zao (pg (gh p) t))]) (u:=.slice n9 0 1 (some 1) 1) (bytes:=16) (w:=[]) ((ho.ai K9).ai (ah.refl.new (.cells [.str (Zao (pg (gh p) t))] 30 true))) (by omega) (by decide) rfl (by simp[oL,St.row,aK]) (by simp[Sb];omega);have e7:((tx ((gh p).take t)).map fun y=>[y])++[[.str (Zao (pg (gh p) t))]]=(tx ((gh p).take (t+1))).map fun y=>[y]:=by rw[HQ,iy (by omega)];simp[tx,strs]
     rw[e7]at j5';have ow:aL N w'=[]:=Zqo j2' (by have:=k2.le;have:=k3.le;omega) rfl;simp(disch:=first|(simp;done)|omega|rfl) [-getElem?_pos, -aL,lV,rF,r6,r5,aj,j1'];exact⟨i,by omega,Ydc ow MS,((Bs.trans K9).trans (ah.refl.new (.cells [.str (Zao (pg (gh p) t))] 30 true))).then SE,t+1,by omega,by simp,j5'⟩
   rintro _ r' ⟨H7,n7,W7⟩ lV ⟨rfl,MS,Bs,u,r5,hu⟩;simp only at MS Bs hu;have EI:=Zsd (by omega) pz' lt1;rw[nl,show m+1-1=m from rfl]at EI;rw[iz B 5]at ud;simp(disch:=first|(simp;done)|omega|rfl) [-getElem?_pos,lV,r5,hr,hf];have Dm:=hf.inner (D':=[(5,6),(25,47)]) rfl (fun hh=>by simpa using hh) lV;exact⟨by simpa using Dm,m,by omega,MS,K3.trans Bs,u,gh p,by simp,hu,nl,by omega,EI,by rw[<-ud];exact ql,ps⟩
 rintro _ r ⟨H,n1,W⟩ hr ⟨hW,hK,⟨rfl,h3⟩|⟨rfl,h3,h4⟩⟩
 ·simp only at hW hK;simp(disch:=first|(simp;done)|omega|rfl) [-getElem?_pos,hr,h3,Ret,hW,hK]
 simp only at hW hK;simp(disch:=first|(simp;done)|omega|rfl) [-getElem?_pos,hr,h3,h4,Ret,hW,hK]
def A.b23:=A.q Tryz.f23
def A.c23:A.F 23=some ⟨29,[.tmp 8],A.b23⟩:=by kernel_rfl
def A.k23:=@A.kk 23 _ _ _ A.c23 rfl
def Xdh{e:Int}{s:bj}{st:St}(h:e≠0):A.C.call (.func 23 [] []) [.str [],.int .i64 e,.int .i64 e,.str s] st=some (.bool true,st):=by apply Call.eq;rw[aZ,A.k23 (by simp)];simp(disch:=first|(simp;done)|omega|rfl) [-getElem?_pos,A.b23,h,a_]
def Xck{q:Rat}{st:St}(hl:(Zao q).length<1000000000)(hb:vk q=false):A.C.call (.func 23 [] []) [.str (Zao q),.int .i64 0,.int .i64 0,.str (Zao q)] st=some (.bool true,st):=by have hL:=fun st=>Xai (q:=q) (st:=st) hl;simp only[hb,gj,if_false]at hL;apply Call.eq;rw[aZ,A.k23 (by simp)];simp(disch:=first|(simp;done)|omega|rfl) [-getElem?_pos,A.b23,hL,a_]
def Xdg{q:Rat}{st:St}(hl:(Zao q).length<1000000000)(hb:vk q=true):A.C.call (.func 23 [] []) [.str [],.int .i64 4,.int .i64 0,.str (Zao q)] st=some (.bool true,st):=by have hL:=fun st=>Xai (q:=q) (st:=st) hl;simp only[hb,if_true]at hL;apply Call.eq;rw[aZ,A.k23 (by simp)];simp(disch:=first|(simp;done)|omega|rfl) [-getElem?_pos,A.b23,hL,a_]
def Nf{h:T O}{N:Nat}{w:List Nat}(hP:j_ h N):A.C.call (.func 7 [] []) [] ⟨h,N,w⟩=some (.bool true,⟨h,N,w⟩):=by exact A.known hP.2
variable {N:Nat} {h:T O} {l:List bj} {v:V}
def A.w8:=A.q Tryz.f8
def A.zg5:=A.ql A.w8 0 []
def A.b8:=(fun x0=>A.qb A.w8 [x0]) A.zg5
def A.k8:=@A.kk 8 26 [.tmp 6] A.b8 (by kernel_rfl) rfl
def A.b58:=A.q Tryz.f58
def A.k58:=@A.kk 58 21 [.tmp 6] A.b58 (by kernel_rfl) rfl
def A.b9:=A.q Tryz.f9
def A.k9:=@A.kk 9 22 [.tmp 2] A.b9 (by kernel_rfl) rfl
def A.b61:=A.q Tryz.f61
def A.k61:=@A.kk 61 27 [.tmp 2] A.b61 (by kernel_rfl) rfl
def A.Ng:=A.q Tryz.f145
def A.pS:=A.ql A.Ng 0 []
def A.b145:=(fun x0=>A.qb A.Ng [x0]) A.pS
def A.k145:=@A.kk 145 18 [.tmp 2] A.b145 (by kernel_rfl) rfl
def A.b12:=A.q Tryz.f12
def A.c12:A.F 12=some ⟨6,[.tmp 2],A.b12⟩:=by kernel_rfl
def A.k12:=@A.kk 12 _ _ _ A.c12 rfl
def Xa4{z:Nat}:∀{l:List (List V)} {c:List V} {o:Nat},(∀j x,l[j]?=some x->aK c (o+j*z) z=some x)->o+l.length*z<=c.length->aK c o (l.length*z)=some l.flatten
 |[],c,o,_,h=>by simp[aK]at h ⊢;omega
 |x::l,c,o,h,hl=>by
  obtain⟨h1,h2⟩:=Zwq (h 0 x rfl)
  simp only[bC,ku,Nat.one_mul,Nat.zero_mul,mY]at hl h1 h2 ⊢
  obtain⟨h3,h4⟩:=Zwq (Xa4 (l:=l) (c:=c) (o:=o+z) (fun j y hj=>by
   have:=h (j+1) y (by simpa using hj)
   rw[show o+z+j*z=o+(j+1)*z by rw[ku];omega];exact this) (by omega))
  unfold aK
  rw[aR (by omega),List.flatten_cons,h4,h2]
  congr 1
  rw[Nat.add_comm (l.length*z) z,List.take_add,<-List.drop_drop]
def Xbn{z:Nat}{w:List Nat}{l:List (List V)}(s:Sn z h N v l):oL ⟨h,N,w⟩ z v=some (l.length,l.flatten):=by
 rcases s with⟨rfl,rfl|rfl⟩|⟨i,o,cp,c,e,rw,rfl,h2,h3,h4,h5,h6⟩
 ·rfl
 ·rfl
 simp only[oL,if_true,St.row,h3,Xa4 h4 h5]
def Cw(z:Nat)(e:TypeId)(N0:Nat)(h:T O)(N:Nat)(y:V)(l:List (List V)):Prop:=
 (∀x∈l,x.length=z)/\((l=[]/\∃i,y=.slice i 0 0 (some 0) z/\N0<=i/\i<N/\h.get i=some (.cells [] e true))\/∃i,y=.slice i 0 l.length none z/\N0<=i/\i<N/\h.get i=some (.cells l.flatten e true))
def Xcq{z bytes:Nat}{e:TypeId}{N0:Nat}{i:Nat}{w:List Nat}{l:List (List V)}(hz:0<z)(hs:Sn z h N v l)(hlz:∀x∈l,x.length=z)(hi:i<N)(h0:N0<=i)(hg:h.get i=some (.cells [] e true))(hb:(2*l.length+1000)*bytes<=281474976710656):
  ∃y h' N',tf ⟨h,N,w⟩ z bytes e (.slice i 0 0 (some 0) z) v=some (y,⟨h',N',w⟩)/\ah h N h' N'/\Cw z e N0 h' N' y l:=by
 by_cases hl:l.length=0
 ·have:l=[]:=rz hl;subst this;exact⟨_,h,N,by simp[tf,Xbn hs],ah.refl,by simp,.inl ⟨rfl,i,rfl,h0,hi,hg⟩⟩
 refine⟨.slice N 0 l.length none z,h.set N (.cells l.flatten e true),N+1,?_,ah.refl.new _,hlz,.inr ⟨N,rfl,by omega,by omega,by rw[T.al,aR rfl]⟩⟩;have cv:l≠[]:=fun hc=>hl (by rw[hc];rfl);simp only[tf,Xbn hs,AU,St.row,hg,aK,St.alloc];simp[cv];have:=ot bytes (show 2*l.length<=2*l.length+1000 by omega);omega
def Cw.sn{z:Nat}{e:TypeId}{N0:Nat}{y:V}{l:List (List V)}(s:Cw z e N0 h N y l):Sn z h N y l:=by
 obtain⟨hl,⟨h0,i,h1,h2,h3,h4⟩|⟨i,h1,h2,h3,h4⟩⟩:=s
 ·subst h0;exact .inr ⟨i,0,some 0,[],e,true,h1,h3,h4,fun j x hj=>by simp at hj,by simp,fun k hk=>by simp⟩
 exact .inr ⟨i,0,none,l.flatten,e,true,h1,h3,h4,fun j x hj=>by rw[oJ];exact NJ hl hj,by rw[Zbj hl];omega,fun k hk=>by cases hk⟩
def Xbq(s:bj):Bool:=decide (s.length<=40)
def Xcv(k n lim:Nat):Bool:=decide (k<=n\/lim<k/\k<=lim+2)
def Xac(n lim:Nat)(l:List bj):Bool:=Xcv l.length n lim&&l.all Xbq
def Xbj{k n lim:Nat}{st:St}(h1:lim<1000):A.C.call (.func 58 [] []) [.int .i64 k,.int .i64 n,.int .i64 lim] st=some (.bool (Xcv k n lim),st):=by
 apply Call.eq;rw[aZ,A.k58 (by simp)];by_cases c1:k<=n
 ·have a1:(k:Int)<=n:=by omega
  simp(disch:=first|(simp;done)|omega|rfl) [-getElem?_pos,A.b58,a1,c1,Xcv]
 have a1:¬(k:Int)<=n:=by omega
 by_cases c2:lim<k
 ·have a2:(lim:Int)<k:=by omega
  by_cases c3:k<=lim+2
  ·have a3:(k:Int)<=(lim:Int)+2:=by omega
   simp(disch:=first|(simp;done)|omega|rfl) [-getElem?_pos,A.b58,a1,c1,a2,c2,a3,c3,Xcv]
  have a3:¬(k:Int)<=(lim:Int)+2:=by omega
  simp(disch:=first|(simp;done)|omega|rfl) [-getElem?_pos,A.b58,a1,c1,a2,c2,a3,c3,Xcv]
 have a2:¬(lim:Int)<k:=by omega
 simp(disch:=first|(simp;done)|omega|rfl) [-getElem?_pos,A.b58,a1,c1,a2,c2,Xcv]
def Xbh{w:List Nat}{n lim:Nat}(hs:Sl h N v (strs l))(hl:l.length<9223372036854775808)(h1:lim<1000):A.C.call (.func 8 [] []) [v,.int .i64 n,.int .i64 lim] ⟨h,N,w⟩=some (.bool (Xac n lim l),⟨h,N,w⟩):=by
 apply Call.eq;have lg:=hs.len;rw[HZ]at lg;have hL:=fun st=>Xbj (k:=l.length) (n:=n) (st:=st) h1;rw[aZ,A.k8 (by simp)];by_cases c1:Xcv l.length n lim=true
 ·have e1:Xac n lim l=l.all Xbq:=by simp[Xac,c1]
  rw[e1];simp(disch:=first|(simp;done)|omega|rfl) [-getElem?_pos,A.b8,lg,hL,c1];refine Zal [(6,7),(14,25)] (fun e r st=>st=⟨h,N,[]⟩/\((e=.exit 0/\l.all Xbq=true)\/(e=.ret/\l.all Xbq=false/\r.get 6=some (.bool false)))) (fun m r st=>st=⟨h,N,[]⟩/\∃k,k+m=l.length/\r.get 7=some (.int .i64 k)/\l.all Xbq=(l.drop k).all Xbq) l.length ?_ ?_ ?_
  ·exact⟨rfl,0,by omega,by simp,by simp⟩
  ·rintro m r _ hr hf ⟨rfl,k,hk,hx,hz⟩;rw[cn];cases m with
   |zero=>
    obtain rfl:k=l.length:=by omega
    rw[xD,List.all_nil]at hz;simp(disch:=first|(simp;done)|omega|rfl) [-getElem?_pos,A.zg5,hr,hf,hx,lg,hz]
   |succ m=>
    have aW:k<l.length:=by omega
    have hk1:(k:Int)<(l.length:Int):=by omega
    obtain⟨s,hc⟩:=eQ aW;obtain⟨i,o,cc,e,rw,q1,q2,q3,q4⟩:=hs.at (KR hc);rw[rV hc,List.all_cons]at hz;by_cases c4:Xbq s=true
    ·rw[c4,Bool.true_and]at hz;have c6:¬40<(s.length:Int):=by simp[Xbq]at c4;omega
     simp(disch:=first|(simp;done)|omega|rfl) [-getElem?_pos,A.zg5,hr,hf,hx,lg,hk1,aW,q1,q2,q3,q4,c6];exact⟨m,by omega,k+1,by omega,by simp,hz⟩
    have c5:Xbq s=false:=by simpa using c4
    rw[c5,Bool.false_and]at hz;have c6:40<(s.length:Int):=by simp[Xbq]at c5;omega
    simp(disch:=first|(simp;done)|omega|rfl) [-getElem?_pos,A.zg5,hr,hf,hx,lg,hk1,aW,q1,q2,q3,q4,c6,hz]
  rintro e r _ hr ⟨rfl,⟨rfl,hq⟩|⟨rfl,hq,h2⟩⟩
  ·simp(disch:=first|(simp;done)|omega|rfl) [-getElem?_pos,hr,hq,Ret]
  simp(disch:=first|(simp;done)|omega|rfl) [-getElem?_pos,hr,hq,h2,Ret]
 have e1:Xac n lim l=false:=by simp[Xac,c1]
 simp(disch:=first|(simp;done)|omega|rfl) [-getElem?_pos,A.b8,lg,hL,c1,e1]
def gV(l:List bj):Int:=cN (l.map fun s=>((aV s:Nat):Int))
def ks(l:List bj):Int:=if l.length=0 then 12 else if 13<l.length then 5 else if gV l=0 then (if l[l.length-1]?=some [48] then 6 else 0) else gV l
def Nh{l:List bj}(h:gV l=0):∀s∈l,aV s=0:=by
 induction l with
 |nil=>intro s hs;simp at hs
 |cons a l ih=>
  unfold gV at h ih;rw[Yw1,cN]at h;by_cases c:((aV a:Nat):Int)=0
  ·rw[aR c]at h;intro s hs;rcases kV.1 hs with rfl|hs
   ·omega
   exact ih h s hs
  rw[aA c]at h;omega
def Zqk(hs:Sl h N v (strs l))(hl:l.length<100000)(rA:∀s∈l,s.length<=100000):Fn A.C 145 [v] h N (fun u _ _=>u=.int .i64 (gV l)):=by
 intro w;have hlen:=hs.len;rw[HZ]at hlen;unfold gV;rw[aZ,A.k145 (by simp)];simp(disch:=first|(simp;done)|omega|rfl) [-getElem?_pos,A.b145,hlen];refine Zal [(2,2),(4,5),(8,17)] (fun e r st=>aL N st.w=[]/\ah h N st.h st.n/\((e=.exit 0/\cN (l.map (fun s=>((aV s:Nat):Int)))=0)\/(e=.ret/\r.get 2=some (.int .i64 (cN (l.map (fun s=>((aV s:Nat):Int)))))))) (fun m r st=>aL N st.w=[]/\ah h N st.h st.n/\∃k,k+m=l.length/\r.get 8=some (.int .i64 k)/\cN (l.map (fun s=>((aV s:Nat):Int)))=cN ((l.drop k).map (fun s=>((aV s:Nat):Int)))) l.length ?_ ?_ ?_
 ·exact⟨by simp,ah.refl,0,by omega,by simp,by simp⟩
 ·rintro m r ⟨H,n1,W⟩ hr ik ⟨hW,hK,k,hk,h7,hz⟩;simp only at hW hK;rw[cn];cases m with
  |zero=>
   obtain rfl:k=l.length:=by omega
   rw[xD,tV,cN]at hz;simp(disch:=first|(simp;done)|omega|rfl) [-getElem?_pos,A.pS,hr,ik,h7,hz,hW,hK]
  |succ m=>
   have aW:k<l.length:=by omega
   obtain⟨s,hc⟩:=eQ aW;obtain⟨i,o,cc,e,rw,q1,q2,q3,q4⟩:=(hs.ai hK).at (KR hc);rw[rV hc,Yw1,cN]at hz;have hk1:(k:Int)<(l.length:Int):=by omega
   simp(disch:=first|(simp;done)|omega|rfl) [-getElem?_pos,A.pS,hr,ik,h7,hk1,aW,hlen,q1,q2,q3,q4];refine av (Zrc (rA s (eI hc))) ?_;rintro _ h3 n3 k3 rfl;have kk:=hK.trans k3;by_cases h0:aV s=0
   ·rw[aR (by omega)]at hz;simp(disch:=first|(simp;done)|omega|rfl) [-getElem?_pos,hr,ik,h7,h0,hW,a_];exact⟨m,by omega,kk,k+1,by omega,by simp,by simpa using hz⟩
   rw[aA (by omega)]at hz;simp(disch:=first|(simp;done)|omega|rfl) [-getElem?_pos,hr,ik,h7,h0,hW,a_,hz];exact kk
 rintro _ r ⟨H,n1,W⟩ hr ⟨hW,hK,⟨rfl,hz⟩|⟨rfl,h2⟩⟩
 ·simp only at hW hK;simp(disch:=first|(simp;done)|omega|rfl) [-getElem?_pos,hr,hz,Ret,hW,hK]
 simp only at hW hK;simp(disch:=first|(simp;done)|omega|rfl) [-getElem?_pos,hr,h2,Ret,hW,hK]
def Yqd(hs:Sl h N v (strs l))(hl:l.length<100000)(rA:∀s∈l,s.length<=100000):Fn A.C 61 [v] h N (fun u _ _=>u=.int .i64 (ks l)):=by
 intro w;have hlen:=hs.len;rw[HZ]at hlen;rw[aZ,A.k61 (by simp)];by_cases c0:l.length=0
 ·have c0':(l.length:Int)=0:=by omega
  have c1':¬13<(l.length:Int):=by omega
  have e1:ks l=12:=by simp[ks,c0]
  simp(disch:=first|(simp;done)|omega|rfl) [-getElem?_pos,A.b61,hlen,c0',wM,a_];refine av (Zqk hs hl rA) ?_;rintro _ h1 n1 k1 rfl;have hi:n1<n1+1:=by omega
  simp(disch:=first|(simp;done)|omega|rfl) [-getElem?_pos,aj,b_.chk,Zje hi,cN,a_,Ret,e1];exact k1.trans (aO ah.refl _)
 have c0':¬(l.length:Int)=0:=by omega
 have ne:¬l=[]:=fun h=>c0 (by rw[h];rfl);by_cases c1:13<l.length
 ·have c1':13<(l.length:Int):=by omega
  have e1:ks l=5:=by simp[ks,c0,c1]
  simp(disch:=first|(simp;done)|omega|rfl) [-getElem?_pos,A.b61,hlen,c0',ne,c1',wM,a_];refine av (Zqk hs hl rA) ?_;rintro _ h1 n1 k1 rfl;have hi:n1<n1+1:=by omega
  simp(disch:=first|(simp;done)|omega|rfl) [-getElem?_pos,aj,b_.chk,Zje hi,cN,a_,Ret,e1];exact k1.trans (aO ah.refl _)
 have c1':¬13<(l.length:Int):=by omega
 simp(disch:=first|(simp;done)|omega|rfl) [-getElem?_pos,A.b61,hlen,c0',ne,c1',wM,a_];refine av (Zqk hs hl rA) ?_;rintro _ h1 n1 k1 rfl;have hi:n1<n1+1:=by omega
 have kD:ah h N (h1.set n1 (.cells [.int .i64 0,.int .i64 0,.int .i64 (gV l)] 26 true)) (n1+1):=k1.trans (aO ah.refl _);obtain⟨s,gg⟩:=eQ (l:=l) (k:=l.length-1) (by omega);obtain⟨i,o,cc,e,rw,q1,q2,q3,q4⟩:=(hs.ai kD).at (KR gg);have d1:((l.length:Int)-1).toNat=l.length-1:=by omega
 have d2:(0:Int)<=(l.length:Int)-1:=by omega
 have d3:(l.length:Int)-1<(l.length:Int):=by omega
 by_cases ca:gV l=0
 ·have e1:ks l=if s=[48] then 6 else 0:=by simp[ks,c0,c1,ca,gg]
  rw[ca]at kD q3;by_cases cz:s=[48]
  ·rw[e1,aR cz];simp(disch:=first|(simp;done)|omega|rfl) [-getElem?_pos,aj,b_.chk,Zje hi,cN,a_,ca,ne,hlen,q1,q2,q3,q4,d1,d2,d3,cz,wM,Ret];exact kD
  rw[e1,aA cz];simp(disch:=first|(simp;done)|omega|rfl) [-getElem?_pos,aj,b_.chk,Zje hi,cN,a_,ca,ne,hlen,q1,q2,q3,q4,d1,d2,d3,cz,wM,Ret];exact kD
 have e1:ks l=gV l:=by simp[ks,c0,c1,ca]
 rw[e1];simp(disch:=first|(simp;done)|omega|rfl) [-getElem?_pos,aj,b_.chk,Zje hi,cN,a_,ca,ne,Ret];exact kD
def Yp9(hs:Sl h N v (strs l))(hl:l.length<100000)(rA:∀s∈l,s.length<=100000):Fn A.C 9 [v] h N (fun u _ _=>u=.int .i64 (ks l)):=by
 intro w;have hlen:=hs.len;rw[HZ]at hlen;rw[aZ,A.k9 (by simp)];by_cases c0:l.length=0
 ·have c0':(l.length:Int)=0:=by omega
  have e1:ks l=12:=by simp[ks,c0]
  simp(disch:=first|(simp;done)|omega|rfl) [-getElem?_pos,A.b9,hlen,c0',a_,Ret,e1];exact ah.refl
 have c0':¬(l.length:Int)=0:=by omega
 have ne:¬l=[]:=fun h=>c0 (by rw[h];rfl);by_cases c1:13<l.length
 ·have c1':13<(l.length:Int):=by omega
  have e1:ks l=5:=by simp[ks,c0,c1]
  simp(disch:=first|(simp;done)|omega|rfl) [-getElem?_pos,A.b9,hlen,c0',ne,c1',a_,Ret,e1];exact ah.refl
 have c1':¬13<(l.length:Int):=by omega
 simp(disch:=first|(simp;done)|omega|rfl) [-getElem?_pos,A.b9,hlen,c0',ne,c1',a_];refine av (Zx7 hs hl fun s h=>by have:=rA s h;omega) ?_;rintro _ h1 n1 k1 rfl;rw[show cN (l.map fun s=>((aV s:Nat):Int))=gV l from rfl];obtain⟨s,gg⟩:=eQ (l:=l) (k:=l.length-1) (by omega);obtain⟨i,o,cc,e,rw,q1,q2,q3,q4⟩:=(hs.ai k1).at (KR gg);have d1:((l.length:Int)-1).toNat=l.length-1:=by omega
 have d2:(0:Int)<=(l.length:Int)-1:=by omega
 have d3:(l.length:Int)-1<(l.length:Int):=by omega
 by_cases ca:gV l=0
 ·have e1:ks l=if s=[48] then 6 else 0:=by simp[ks,c0,c1,ca,gg]
  have hq:=(kr (Nh ca s (eI gg))).1;have ez:s=[48]↔aY s=0:=by
   constructor
   ·intro hc;rw[<-hq,<-xI]at hc;exact Zh8 hc
   intro hc;rw[<-hq,hc,xI]
  rw[e1];simp only[ez];rw[<-hq]at q4;clear e1 ez hq gg;generalize aY s=q at*;by_cases cz:q=0
  ·simp(disch:=first|(simp;done)|omega|rfl) [-getElem?_pos,a_,ca,hlen,q1,q2,q3,q4,d1,d2,d3,cz,Zsw,Ret];exact k1
  simp(disch:=first|(simp;done)|omega|rfl) [-getElem?_pos,a_,ca,hlen,q1,q2,q3,q4,d1,d2,d3,cz,Zsw,Ret];exact k1
 have e1:ks l=gV l:=by simp[ks,c0,c1,ca]
 rw[e1];simp(disch:=first|(simp;done)|omega|rfl) [-getElem?_pos,a_,ca,Ret];exact k1
def Xaj(hs:Sl h N v (strs l))(hl:l.length<100000):Fn A.C 12 [v] h N (fun u h' n'=>Sl h' n' u (strs l)):=by intro w;rw[aZ,A.k12 (by simp)];have k0:ah h N (h.set N (.cells [] 30 true)) (N+1):=ah.refl.new _;have s1:Sn 1 (h.set N (.cells [] 30 true)) (N+1) v ((strs l).map fun x=>[x]):=Sn.one.2 (hs.ai k0);obtain⟨y,h',N',ap,kk,cw⟩:=Xcq (z:=1) (bytes:=16) (e:=30) (N0:=N) (i:=N) (w:=[]) (by decide) s1 (by simp) (by omega) (Yv5 _) (by rw[T.al,aR rfl]) (by simp[strs];omega);simp(disch:=first|(simp;done)|omega|rfl) [-getElem?_pos,A.b12,ap,Ret];exact⟨k0.trans kk,Sn.one.1 cw.sn⟩
def Xao{z:List V}{n:Nat}:∀{m:Nat},dr z (m+n)=dr z m++dr z n
 |0=>by simp[dr]
 |m+1=>by rw[show m+1+n=(m+n)+1 by omega,KT,KT,Xao (m:=m),rB]
def jQ.dup{h:T O}{N R m r:Nat}{l ws:List Rat}{xs:List (List V)}(s:jQ h N R l (m+r))(hx:xs.length=m)(hm:ws.length=m)(hw:∀(j:Nat) (q:Rat),ws[j]?=some q->∃c,xs[j]?=some c/\fz h N c q):∃X,h.get R=some (.cells X 102 true)/\l.length*4+m*4<=X.length/\jQ (h.set R (.cells (aj X (l.length*4) xs.flatten) 102 true)) N R (l++ws) r:=by
 obtain⟨cs,g1,g2,g3⟩:=s.ex;obtain⟨f1,f2,_⟩:=jQ.RG g2 g3;obtain⟨y1,y2,_⟩:=jQ.RG (l:=ws) (by omega) hw;have oX:=Zbj f1;have OV:=Zbj y1;have hsp:aj (cs.flatten++dr zF (m+r)) (l.length*4) xs.flatten=(cs++xs).flatten++dr zF r:=by rw[Xao,Sd (n:=m*4) (by rw[oX,g2]) (Ykc m) (by rw[OV,hx]),List.flatten_append,rB]
 have Dc:sY (cs.flatten++dr zF (m+r)):=f2.app Ni;have yD:((cs++xs).flatten++dr zF r).length=(cs.flatten++dr zF (m+r)).length:=by rw[Xao,List.flatten_append];simp[Ykc,OV,hx]
 refine⟨_,g1,by rw[iJ,oX,g2,Ykc];omega,s.lt,cs++xs,by rw[T.al,aR rfl,hsp],by simp[g2,hx,hm],fun j q hq=>?_⟩;rw[hsp];by_cases e:j<l.length
 ·rw[xJ e]at hq;obtain⟨x,a,b⟩:=g3 j q hq;exact⟨x,by rw[xJ (by omega)];exact a,b.ay g1 Dc yD⟩
 rw[Ig (by omega)]at hq;obtain⟨x,a,b⟩:=hw _ q hq;exact⟨x,by rw[Ig (by omega),g2];exact a,b.ay g1 Dc yD⟩
def Xd8{h:T O}{N:Nat}{w:List Nat}{i o n m:Nat}{cp:Option Nat}{c xs:List V}{e:TypeId}{s:V}(hn:0<n)(hm:0<m)(hs:oL ⟨h,N,w⟩ 4 s=some (m,xs))(hg:h.get i=some (.cells c e true))(hc:o+min m n*4<=c.length):Yrd ⟨h,N,w⟩ 4 (some (.slice i o n cp 4)) (some s)=some (.int .i64 (min m n:Nat),⟨h.set i (.cells (aj c o (xs.take (min m n*4))) e true),N,i::w⟩):=by
 have h0:¬min m n=0:=by omega
 simp only[Yrd,DQ,Src.ev,hs,St.row,hg];rw[aA (by omega),aA h0,aR hc];rfl
end
end Go.Mx
