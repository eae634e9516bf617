/-loop-/
import Derived.Test.YtgnadghjglamaaaGreatDoorLpC
set_option linter.all false
set_option maxHeartbeats 4000000
namespace Go.Mx
noncomputable section
open Go Go.Proofs
set_option maxRecDepth 1000000
def A.b89:=A.q Tryz.f89
def A.k89:=@A.kk 89 19 [.tmp 4] A.b89 (by kernel_rfl) rfl
def Zi1{g l p:Rat}{d:Nat}:(zgn g l p d).length=d+3/\pg (zgn g l p d) (d+2)=1:=by
 have e:(zgn g l p d).length=d+3:=by simp[zgn]
 refine⟨e,?_⟩;unfold pg zgn;rw[eR (by omega),eR (by omega),eR (by omega),sI (by simp)];rfl
def Dj(g l p:Rat)(d:Nat):Bool:=zgo (d+3) (zgn g l p d)
def Ypj{g l p:aU}{d:Int}(h:ki g l p d=0):aY g=0/\aY l=0/\aY p=0/\∃dn:Nat,d=(dn:Int)/\dn<=6/\¬bJ g<0/\¬bJ l<0/\¬1<bJ l/\¬bJ p<0:=by
 unfold ki at h;split at h
 ·rename_i h00;obtain⟨n0,n1⟩:=R4 h00;split at h
  ·omega
  rename_i xe;obtain⟨n2,dd⟩:=R4 h;have kv:¬(d<0\/6<d):=fun hx=>by rw[aQ hx]at dd;omega
  exact⟨(Dk n0).1,(Dk n1).1,(Dk n2).1,d.toNat,by omega,by omega,(Dk n0).2,(Dk n1).2,xe,(Dk n2).2⟩
 rename_i h00;exact absurd h h00
def Yxp{k d:Nat}(hk:k<=494)(hd:d<=6):k*5^(d+3-1)<=400000000:=by
 have h1:5^(d+3-1)<=5^8:=pc (by omega) (by omega);have h2:=jf hk h1;have:494*5^8=192968750:=by decide
 omega
def Xbl{g l p:aU}{d e:Int}{h:T O}{N:Nat}(hg:g.length<=40)(hl:l.length<=40)(hp:p.length<=40):Fn A.C 89 [.agg [.str g,.str l,.str p,.int .i64 d],.int .i64 e] h N (fun x _ _=>x=.int .i64 (if cY [ki g l p d,e]=0 then (if Dj (bJ g) (bJ l) (bJ p) d.toNat=true then 0 else 15) else cY [ki g l p d,e])):=by
 intro w;rw[aV,A.k89 (by simp)];have kB:=aI (ae.refl (h:=h) (n:=N)) (.cells [.str g,.str l,.str p,.int .i64 d] 24 true);have b0:(h.set N (.cells [.str g,.str l,.str p,.int .i64 d] 24 true)).get N=some (.cells [.str g,.str l,.str p,.int .i64 d] 24 true):=by simp
 simp(disch:=first|(simp;done)|omega|rfl) [-getElem?_pos,A.b89,aJ,aE];generalize h.set N (.cells [.str g,.str l,.str p,.int .i64 d] 24 true)=hB at*;refine az (Ydh hg hl hp (by omega)) ?_;rintro _ h1 n1 k1 rfl;have uw:=k1.le;have f1:=(k1.get N (by omega)).trans b0;have e1:N<n1:=by omega
 have hi:n1<n1+1:=by omega
 have kC:=(kB.trans k1).trans (aI (ae.refl (h:=h1) (n:=n1)) (.cells [.int .i64 (ki g l p d),.int .i64 e] 31 true));have f3:(h1.set n1 (.cells [.int .i64 (ki g l p d),.int .i64 e] 31 true)).get N=some (.cells [.str g,.str l,.str p,.int .i64 d] 24 true):=by rw[T.aj,aA (by omega)];exact f1
 simp(disch:=first|(simp;done)|omega|rfl) [-getElem?_pos,ag,Lk hi];generalize h1.set n1 (.cells [.int .i64 (ki g l p d),.int .i64 e] 31 true)=h3 at*;have g3:N<n1+1:=by omega
 by_cases c:cY [ki g l p d,e]=0
 ·obtain⟨cg,cl,cp,dn,rfl,dl,_⟩:=Ypj (R4 c).1;have qg:=uJ cg hg;have ql:=uJ cl hl;have qp:=uJ cp hp;have eg:=(BN cg).1;have el:=(BN cl).1;have ep:=(BN cp).1;rw[aQ c,Int.toNat_natCast];generalize bJ g=qg' at*;generalize bJ l=ql' at*;generalize bJ p=qp' at*;subst eg el ep;simp(disch:=first|(simp;done)|omega|rfl) [-getElem?_pos,c,aL,f3,g3,aJ,aE];refine az (Ymh qg ql qp (by omega) dl) ?_;rintro v2 h2 n2 k2 hv;obtain⟨lc,lz⟩:=Zi1 (g:=qg') (l:=ql') (p:=qp') (d:=dn);simp(disch:=first|(simp;done)|omega|rfl) [-getElem?_pos,];refine az (Ywb (k:=494) hv (by omega) (by omega) (by rw[lc,show dn+3-1=dn+2 from by omega,lz];decide) (fun q hq=>(Dv qg ql qp (by omega) q hq).mono (by omega)) (by omega) (by rw[lc];exact Yxp (by omega) dl)) ?_;rintro _ h4 n4 k4 rfl;rw[lc];unfold Dj;cases zgo (dn+3) (zgn qg' ql' qp' dn)<;>simp(disch:=first|(simp;done)|omega|rfl) [-getElem?_pos,zd,aF]<;>exact(kC.trans k2).trans k4
 simp(disch:=first|(simp;done)|omega|rfl) [-getElem?_pos,c,aL,aF];exact kC
def A.b41:=A.q Tryz.f41
def A.k41:=@A.kk 41 9 [.tmp 4] A.b41 (by kernel_rfl) rfl
def Yzv{a b:Rat}{j k:Nat}{h:T O}{N:Nat}(ha:Qb j a)(hb:Qb k b)(h0:b≠0)(hj:j<=400000000)(hk:k<=400000000):Fn A.C 41 [.str (ax a),.str (ax b)] h N (fun u _ _=>u=.str (ax (a/b))):=by intro w;rw[aV,A.k41 (by simp)];simp(disch:=first|(simp;done)|omega|rfl) [-getElem?_pos,A.b41];refine az (Yz9 hb hk h0) ?_;rintro _ h1 n1 k1 rfl;simp(disch:=first|(simp;done)|omega|rfl) [-getElem?_pos,];refine az (uM ha (hb.inv h0) hj hk) ?_;rintro _ h2 n2 k2 rfl;rw[<-Rat.div_def];simp(disch:=first|(simp;done)|omega|rfl) [-getElem?_pos,aF];exact k1.trans k2
def Li{q:Rat}{st:St}(hl:(ax q).length<1000000000):A.C.call (.func 47 [] []) [.str (ax q)] st=some (.str (ax (iE q)),st):=by
 have hs:=fun st=>Np (q:=q) (st:=st);apply Call.eq;rw[aV,A.k47 (by simp)];by_cases hz:q<0
 ·have hz':=hz;rw[show q<0↔q.num<0 from by rw[Rat.lt_iff];simp]at hz';have h1:=AE.2 hz;have e1:ax q=45::QB q:=by rw[x_,aQ hz']
  have e2:ax (iE q)=QB q:=by have:iE q= -q:=aQ hz;rw[this,x_,aA (by rw[Rat.neg_num];omega),Ynp]
  rw[e2];rw[e1]at hs hl;have a3:∀st:St,Zcg st (some (.str (45::QB q))) (some (some (.int .i64 1))) (some none)=some (.str (QB q),st):=fun st=>by rw[BK (by omega) (by simp only[ak];omega)];rfl
  rw[e1];simp(disch:=first|(simp;done)|omega|rfl) [-getElem?_pos,A.b47,hs,h1,aC,a3]
 have h1:¬df q.num<0:=fun hc=>hz (AE.1 hc);have e2:iE q=q:=aA hz;rw[e2];simp(disch:=first|(simp;done)|omega|rfl) [-getElem?_pos,A.b47,hs,h1]
def A.w38:=A.q Tryz.f38
def A.zgY:=A.ql A.w38 1 []
def A.zf3:=(fun x0=>A.ql A.w38 0 [x0]) A.zgY
def A.b38:=(fun x0=>A.qb A.w38 [x0]) A.zf3
def A.k38:=@A.kk 38 49 [.tmp 2] A.b38 (by kernel_rfl) rfl
structure Xat (h:T O) (N:Nat) (l:List Rat) (k m:Nat) (r:T V) (st:St):Prop where
 w:aD N st.w=[]
 ah:ae h N st.h st.n
 ex:∃(v:V) (p:List Rat),r.get 0=some v/\Tx st.h st.n v p/\p.length=m+1/\m+1<=l.length/\pg p m≠0/\(∀q∈p,Qb (k*5^(l.length-1-m)) q)/\zgo (m+1) p=zgo l.length l
def Ywr{h:T O}{N k:Nat}{v:V}{l:List Rat}(hs:Tx h N v l)(h1:1<=l.length)(hl:l.length<=13)(h0:pg l (l.length-1)≠0)(hq:∀q∈l,Qb k q)(hk:1<=k)(gO:k*5^(l.length-1)<=200000000):Fn A.C 38 [v] h N (fun x _ _=>x=.bool (zgo l.length l)):=by
 intro w;rw[aV,A.k38 (by simp)];simp(disch:=first|(simp;done)|omega|rfl) [-getElem?_pos,A.b38];refine c_ [(0,0),(2,48)] (fun e r st=>aD N st.w=[]/\ae h N st.h st.n/\((e=.exit 0/\zgo l.length l=true)\/(e=.ret/\zgo l.length l=false/\r.get 2=some (.bool false)))) (Xat h N l k) (l.length-1) ?_ ?_ ?_
 ·refine⟨by simp,ae.refl,v,l,by simp,hs,by omega,by omega,h0,fun q hm=>?_,by rw[show l.length-1+1=l.length from by omega]⟩;rw[Nat.sub_self,AH,tE];exact hq q hm
 ·rintro m r ⟨H,n1,W⟩ hr hf ⟨hW,hK,v,p,r0,hp,pl,Lg,pz,pq,ps⟩;simp only at hW hK hp;have lv:=hp.len;rw[pl]at lv;have uG:Sl H n1 v (tx p):=hp;rw[dk];cases m with
  |zero=> rw[Yxb (by omega)]at ps;simp(disch:=first|(simp;done)|omega|rfl) [-getElem?_pos,A.zf3,hr,hf,r0,lv,hW,hK,<-ps]
  |succ m=>
   obtain⟨i0,o0,x0,e0,w0,a1,a2,a3,a4⟩:=uG.at (vV (eL (p:=p) (i:=0) (by omega)));obtain⟨i1,o1,x1,e1,w1,b1,b2,b3,b4⟩:=uG.at (vV (eL (p:=p) (i:=m+1) (by omega)));rw[a1]at b1;obtain⟨rfl,rfl⟩:i0=i1/\o0=o1:=by simpa using b1
   rw[a3]at b3;obtain⟨rfl,rfl,rfl⟩:x0=x1/\e0=e1/\w0=w1:=by simpa using b3
   rw[tF]at a4;have g1:(1:Int)<(m:Int)+1+1:=by omega
   have g6:(m:Int)+1<(m:Int)+1+1:=by omega
   have g7:(0:Int)<(m:Int)+1+1:=by omega
   have g8:(0:Int)<=(m:Int)+1:=by omega
   have g9:((m:Int)+1).toNat=m+1:=by omega
   have g2:((m+1+1:Nat):Int)-1<((m+1+1:Nat):Int):=by omega
   have g3:(((m+1+1:Nat):Int)-1).toNat=m+1:=by omega
   have g4:(0:Int)<((m+1+1:Nat):Int):=by omega
   have g5:(0:Int)<=((m+1+1:Nat):Int)-1:=by omega
   have uz:k*5^(l.length-1-(m+1))*5=k*5^(l.length-1-m):=by rw[uA,<-fO];congr 2;omega
   have Lh:k*5^(l.length-1-m)<=200000000:=sF (je k (pc (by omega) (by omega))) gO;have hBk:1<=k*5^(l.length-1-(m+1)):=tH hk (vU (by omega));generalize hB:k*5^(l.length-1-(m+1))=B at*;have Ie:pg p (p.length-1)≠0:=by rw[pl];exact pz
   have ql:=Ywg (by omega) hBk Ie pq;have qr:=Yv0 (by omega) Ie pq;have qa:=pq _ (eZ (eL (p:=p) (i:=0) (by omega)));have qb:=pq _ (eZ (eL (p:=p) (i:=m+1) (by omega)));have er:pg p 0/pg p (m+1)=ratio p:=by unfold ratio;rw[pl];rfl
   simp(disch:=first|(simp;done)|omega|rfl) [-getElem?_pos,A.zf3,hr,hf,r0,lv,a1,a2,a3,a4,b4,g1,g2,g3,g4,g5,g6,g7,g8,g9];refine az (Yzv qa qb pz (by omega) (by omega)) ?_;rintro _ h2 n2 k2 rfl;rw[er];have Ig:Qb (B+B) (iE (ratio p)):=by
    unfold iE;split
    ·exact qr.neg
    exact qr
   have la:=jt qr;have ra:=fun st=>Li (q:=ratio p) (st:=st) (by omega);have hc:=zg (a:=iE (ratio p)) (b:=1) (k:=1) (h:=h2) (N:=n2) Ig (by unfold Qb;decide) (by omega) (by decide) (by rw[Nr];decide);rw[Nr]at hc;simp(disch:=first|(simp;done)|omega|rfl) [-getElem?_pos,hr,hf,bU.bZ,ra];refine az hc ?_;rintro _ h3 n3 k3 rfl;have ec:(0<=df (iE (ratio p)-1).num)↔1<=iE (ratio p):=by
    have h1:iE (ratio p)<1↔iE (ratio p)-1<0:=by grind
    rw[<-Rat.not_lt,h1,<-AE];omega
   generalize df (iE (ratio p)-1).num=cz at*;have K3:=(hK.trans k2).trans k3;have ps2:zgo (m+1+1) p=if 1<=iE (ratio p) then false else zgo (m+1) (jB p):=by
    conv=>lhs;unfold zgo
    rw[aA (by omega)]
   rw[ps2]at ps;by_cases cc:1<=iE (ratio p)
   ·have uB:=ec.2 cc;rw[aQ cc]at ps;simp(disch:=first|(simp;done)|omega|rfl) [-getElem?_pos,hr,hf,r0,uB,hW,K3,<-ps]
   have uB:¬0<=cz:=fun h=>cc (ec.1 h);rw[aA cc]at ps;have Nk:iE (ratio p)<1:=Rat.not_le.1 cc;have Nj:=hK.le;have hp3:Sl h3 n3 v (tx p):=(uG.ah k2).ah k3;have nl:(jB p).length=m+1:=by rw[Iz,pl];rfl
   simp(disch:=first|(simp;done)|omega|rfl) [-getElem?_pos,hr,hf,r0,uB];refine c_ [(5,6),(25,47)] (fun e r st=>e=.exit 2/\aD N st.w=[]/\ae h3 n3 st.h st.n/\∃u,r.get 5=some u/\Tx st.h st.n u (jB p)) (fun i r st=>aD N st.w=[]/\ae h3 n3 st.h st.n/\∃(t:Nat) (u:V),t+i=m+1/\r.get 6=some (.int .i64 t)/\r.get 5=some u/\Own 1 22 n3 st.h st.n u ((tx ((jB p).take t)).map fun y=>[y])) (m+1) ?_ ?_ ?_
   ·exact⟨hW,ae.refl,0,.aa,by omega,by simp,by simp,by simpa[tx,strs]using Own.nil⟩
   ·rintro i r' ⟨H7,n7,W7⟩ rQ yV ⟨xf,hK7,t,u,ht,r6,r5,ho⟩;simp only at xf hK7 ho;rw[dk];cases i with
    |zero=>
     obtain rfl:t=m+1:=by omega
     rw[iP (by omega)]at ho;simp(disch:=first|(simp;done)|omega|rfl) [-getElem?_pos,A.zgY,rQ,yV,hr,hf,r6,xf,hK7];exact⟨u,r5,(Ywe ho).1⟩
    |succ i=>
     have dE:(t:Int)<(m:Int)+1:=by omega
     have Ih:=hp3.ah hK7;have Nl:=Ih.len;rw[rS,pl]at Nl;have le7:=hK7.le;obtain⟨j0,u0,y0,z0,q0,b1,b2,b3,b4⟩:=Ih.at (vV (eL (p:=p) (i:=t+1) (by omega)));obtain⟨j1,u1,y1,z1,q1,x1,x2,x3,x4⟩:=Ih.at (vV (eL (p:=p) (i:=m-t) (by omega)));rw[b1]at x1;obtain⟨rfl,rfl⟩:j0=j1/\u0=u1:=by simpa using x1
     rw[b3]at x3;obtain⟨rfl,rfl,rfl⟩:y0=y1/\z0=z1/\q0=q1:=by simpa using x3
     have i1:(0:Int)<=(t:Int)+1:=by omega
     have i2:(t:Int)+1<(m:Int)+1+1:=by omega
     have i3:((t:Int)+1).toNat=t+1:=by omega
     have i4:(0:Int)<=(m:Int)-t:=by omega
     have i5:(m:Int)-t<(m:Int)+1+1:=by omega
     have i6:((m:Int)-t).toNat=m-t:=by omega
     have bx:=pq _ (eZ (eL (p:=p) (i:=t+1) (by omega)));have Nm:=pq _ (eZ (eL (p:=p) (i:=m-t) (by omega)));have bm:=qr.mul Nm;have lm:=jt bm;simp(disch:=first|(simp;done)|omega|rfl) [-getElem?_pos,A.zgY,rQ,yV,hr,hf,r0,r6,r5,dE,Nl,b1,b2,b3,b4,x4,i1,i2,i3,i4,i5,i6];refine az (uM qr Nm (by omega) (by omega)) ?_;rintro _ h8 n8 k8 rfl;simp(disch:=first|(simp;done)|omega|rfl) [-getElem?_pos,];refine az (Dl bx bm (by omega) (by omega) (by omega)) ?_;rintro _ h9 n9 k9 rfl;have en:pg p (t+1)-ratio p*pg p (m-t)=pg (jB p) t:=by rw[Yv2 (by omega),pl,show m+1+1-1-1-t=m-t from by omega]
     rw[en];have K9:=k8.trans k9;have le9:=K9.le;obtain⟨u',h',w',j1',j2',uL,_,RY⟩:=xh (x:=[.str (ax (pg (jB p) t))]) (u:=.slice n9 0 1 (some 1) 1) (bytes:=16) (w:=[]) ((ho.ah K9).ah (ae.refl.new (.cells [.str (ax (pg (jB p) t))] 22 true))) (by omega) (by decide) rfl (by simp[gp,St.row,aE]) (by simp[rS];omega);have e7:((tx ((jB p).take t)).map fun y=>[y])++[[.str (ax (pg (jB p) t))]]=(tx ((jB p).take (t+1))).map fun y=>[y]:=by rw[HY,eL (by omega)];simp[tx,strs]
     rw[e7]at RY;have ow:aD N w'=[]:=Ir j2' (by have:=k2.le;have:=k3.le;omega) rfl;simp(disch:=first|(simp;done)|omega|rfl) [-getElem?_pos, -aD,rQ,yV,r6,r5,ag,j1'];exact⟨i,by omega,Yjn ow xf,((hK7.trans K9).trans (ae.refl.new (.cells [.str (ax (pg (jB p) t))] 22 true))).then uL,t+1,by omega,by simp,RY⟩
   rintro _ r' ⟨H7,n7,W7⟩ rQ ⟨rfl,xf,hK7,u,r5,hu⟩;simp only at xf hK7 hu;have sH:=Yv3 (by omega) Ie Nk;rw[nl,show m+1-1=m from rfl]at sH;rw[gk B 5]at uz;simp(disch:=first|(simp;done)|omega|rfl) [-getElem?_pos,rQ,r5,hr,hf];have BI:=hf.inner (D':=[(5,6),(25,47)]) rfl (fun hh=>by simpa using hh) rQ;exact⟨by simpa using BI,m,by omega,xf,K3.trans hK7,u,jB p,by simp,hu,nl,by omega,sH,by rw[<-uz];exact ql,ps⟩
 rintro _ r ⟨H,n1,W⟩ hr ⟨hW,hK,⟨rfl,h3⟩|⟨rfl,h3,h4⟩⟩
 ·simp only at hW hK;simp(disch:=first|(simp;done)|omega|rfl) [-getElem?_pos,hr,h3,aF,hW,hK]
 simp only at hW hK;simp(disch:=first|(simp;done)|omega|rfl) [-getElem?_pos,hr,h3,h4,aF,hW,hK]
def A.b39:=A.q Tryz.f39
def A.k39:=@A.kk 39 46 [.tmp 2] A.b39 (by kernel_rfl) rfl
def Ywu{g l p:Rat}{d k:Nat}{h:T O}{N:Nat}(qg:Qb k g)(ql:Qb k l)(qp:Qb k p)(ew:1<=k)(hk:k<=1000)(hd:d<=6):Fn A.C 39 [.agg [.str (ax g),.str (ax l),.str (ax p),.int .i64 d]] h N (fun x h' n'=>Ii h' n' x (zgn g l p d)):=by
 intro w;rw[aV,A.k39 (by simp)];have kB:=aI (ae.refl (h:=h) (n:=N)) (.cells [.str (ax g),.str (ax l),.str (ax p),.int .i64 d] 26 true);have b0:(h.set N (.cells [.str (ax g),.str (ax l),.str (ax p),.int .i64 d] 26 true)).get N=some (.cells [.str (ax g),.str (ax l),.str (ax p),.int .i64 d] 26 true):=by simp
 have z0:=fun (h:T O) (N:Nat)=>Yxq (h:=h) (N:=N) (n:=d+3) (by omega) (by omega);have ez:((d+3:Nat):Int)=(d:Int)+2+1:=by omega
 simp only[ez]at z0;simp(disch:=first|(simp;done)|omega|rfl) [-getElem?_pos,A.b39];generalize h.set N (.cells [.str (ax g),.str (ax l),.str (ax p),.int .i64 d] 26 true)=hB at*;refine az (z0 hB (N+1)) ?_;rintro _ h1 n1 k1 ⟨R,rfl,hR,s1⟩;have uw:=k1.le;have f1:=(k1.get N (by omega)).trans b0;have e1:N<n1:=by omega
 have lR:=s1.lt;have r1:=s1.get;have d1:(d:Int)+2<(d:Int)+3:=by omega
 have d2:((d:Int)+2).toNat=d+2:=by omega
 have d3:(0:Int)<=(d:Int)+2:=by omega
 have tD:((List.range (d+3)).map fun _=>(0:Rat)).length=d+3:=by simp
 obtain⟨x1,x2⟩:=s1.put (j:=d+2) (q:=1) (by omega);rw[Nr]at x1;have gz:(((List.range (d+3)).map fun _=>(0:Rat)).set (d+2) 1)[d+1]?=some 0:=by rw[eR (by omega)];simp
 have xe:(((List.range (d+3)).map fun _=>(0:Rat)).set (d+2) 1).length=d+3:=by simp
 generalize ya:((List.range (d+3)).map fun _=>(0:Rat)).set (d+2) 1=L1 at*;have t1:=vV gz;have zfY:ax 0=[48]:=Ij;have d4:(d:Int)+2-1<(d:Int)+3:=by omega
 have d5:((d:Int)+2-1).toNat=d+1:=by omega
 have d6:(0:Int)<=(d:Int)+2-1:=by omega
 have nR:¬N=R:=by omega
 have kC:ae h N (h1.set R (.cells (tx L1) 22 true)) n1:=(kB.trans k1).set (by omega);have f2:(h1.set R (.cells (tx L1) 22 true)).get N=some (.cells [.str (ax g),.str (ax l),.str (ax p),.int .i64 d] 26 true):=by rw[T.aj,aA nR];exact f1
 have nRN:¬R<N:=by omega
 simp(disch:=first|(simp;done)|omega|rfl) [-getElem?_pos,f1,e1,lR,r1,nRN,d1,d2,d3,d4,d5,d6,nR,bE,x1,rS,t1];have r2:=x2.get;generalize h1.set R (.cells (tx L1) 22 true)=H2 at*;have b0':Qb k 0:=(Qb.int (z:=0) (k:=1) (by decide) (by decide)).mono ew;have b1':Qb k 1:=(Qb.int (z:=1) (k:=1) (by decide) (by decide)).mono ew;have ll:=jt ql;have lp:=jt qp;refine az (Dl (a:=0) (b:=l) b0' ql (by omega) (by omega) (by omega)) ?_;rintro _ h3 n3 k3 rfl;rw[show (0:Rat)-l= -l from by grind];have xX:=k3.le;have La:=x2.ah k3;obtain⟨y1,y2⟩:=La.put (j:=d+1) (q:= -l) (by omega);have r3:=La.get;have lR3:=La.lt;have e3:N<n3:=by omega
 have f3:=(k3.get N (by omega)).trans f2;have g1q:(L1.set (d+1) (-l))[1]?=some (if d=0 then -l else 0):=by
  rw[<-ya];by_cases kv:d=0
  ·subst kv;simp
  rw[eR (by omega),eR (by omega)];simp[kv]
 have oO:(L1.set (d+1) (-l)).length=d+3:=by simp[xe]
 generalize Lb:L1.set (d+1) (-l)=L2 at*;have t2:=vV g1q;have kD:ae h N (h3.set R (.cells (tx L2) 22 true)) n3:=(kC.trans k3).set (by omega);have f4:(h3.set R (.cells (tx L2) 22 true)).get N=some (.cells [.str (ax g),.str (ax l),.str (ax p),.int .i64 d] 26 true):=by rw[T.aj,aA nR];exact f3
 have q2:(1:Int)<(d:Int)+3:=by omega
 have q3:(0:Int)<(d:Int)+3:=by omega
 simp(disch:=first|(simp;done)|omega|rfl) [-getElem?_pos,r3,lR3,d4,d5,d6,bE,y1,rS,xe,bU.bZ,f3,e3,nR,q2,t2,oO];generalize h3.set R (.cells (tx L2) 22 true)=H4 at*;have bz:Qb k (if d=0 then -l else 0):=by
  split
  ·exact ql.neg
  exact b0'
 refine az (AI qg qp (by omega) (by omega)) ?_;rintro _ h5 n5 k5 rfl;simp(disch:=first|(simp;done)|omega|rfl) [-getElem?_pos,];refine az (AI bz (qg.add qp) (by omega) (by omega)) ?_;rintro _ h6 n6 k6 rfl;have k56:=k5.trans k6;have le6:=k56.le;have y3:=y2.ah k56;obtain⟨z1,z2⟩:=y3.put (j:=1) (q:=(if d=0 then -l else 0)+(g+p)) (by omega);have r6:=y3.get;have lR6:=y3.lt;have e6:N<n6:=by omega
 have f6:=(k56.get N (by omega)).trans f4;have g0q:(L2.set 1 ((if d=0 then -l else 0)+(g+p)))[0]?=some 0:=by rw[<-Lb,<-ya,eR (by omega),eR (by omega),eR (by omega)];simp
 have M8:(L2.set 1 ((if d=0 then -l else 0)+(g+p))).length=d+3:=by simp[oO]
 generalize hL3:L2.set 1 ((if d=0 then -l else 0)+(g+p))=L3 at*;have t3:=vV g0q;have kE:ae h N (h6.set R (.cells (tx L3) 22 true)) n6:=(kD.trans k56).set (by omega);simp(disch:=first|(simp;done)|omega|rfl) [-getElem?_pos,r6,lR6,bE,z1,rS,oO,M8,bU.bZ,f6,e6,nR,q2,q3,t3];generalize h6.set R (.cells (tx L3) 22 true)=H7 at*;refine az (Dl (a:=0) (b:=p) b0' qp (by omega) (by omega) (by omega)) ?_;rintro _ h8 n8 k8 rfl;rw[show (0:Rat)-p= -p from by grind];have z3:=z2.ah k8;obtain⟨w1,w2⟩:=z3.put (j:=0) (q:= -p) (by omega);have r8:=z3.get;have lR8:=z3.lt;have RW:=k8.le;simp(disch:=first|(simp;done)|omega|rfl) [-getElem?_pos,r8,lR8,bE,w1,rS,M8,bU.bZ,q3,nRN,aF];have ecq:L3.set 0 (-p)=zgn g l p d:=by rw[<-hL3,<-Lb,<-ya,<-Rat.add_assoc];rfl
 have fin:=w2.txt;rw[Dm,M8,ecq]at fin;rw[ecq];exact⟨(kE.trans k8).set (by omega),fin⟩
def A.b36:=A.q Tryz.f36
def A.c36:A.F 36=some ⟨29,[.tmp 8],A.b36⟩:=by kernel_rfl
def A.k36:=@A.kk 36 _ _ _ A.c36 rfl
def Xbi{e:Int}{s:aU}{st:St}(h:e≠0):A.C.call (.func 36 [] []) [.str [],.int .i64 e,.int .i64 e,.str s] st=some (.bool true,st):=by apply Call.eq;rw[aV,A.k36 (by simp)];simp(disch:=first|(simp;done)|omega|rfl) [-getElem?_pos,A.b36,h,aL]
def Xbc{q:Rat}{st:St}(hl:(ax q).length<1000000000)(hb:BJ q=false):A.C.call (.func 36 [] []) [.str (ax q),.int .i64 0,.int .i64 0,.str (ax q)] st=some (.bool true,st):=by have hL:=fun st=>Yzm (q:=q) (st:=st) hl;simp only[hb,gV,if_false]at hL;apply Call.eq;rw[aV,A.k36 (by simp)];simp(disch:=first|(simp;done)|omega|rfl) [-getElem?_pos,A.b36,hL,aL]
def Xbh{q:Rat}{st:St}(hl:(ax q).length<1000000000)(hb:BJ q=true):A.C.call (.func 36 [] []) [.str [],.int .i64 4,.int .i64 0,.str (ax q)] st=some (.bool true,st):=by have hL:=fun st=>Yzm (q:=q) (st:=st) hl;simp only[hb,if_true]at hL;apply Call.eq;rw[aV,A.k36 (by simp)];simp(disch:=first|(simp;done)|omega|rfl) [-getElem?_pos,A.b36,hL,aL]
def Zhm{h:T O}{N:Nat}{w:List Nat}(hP:mC h N):A.C.call (.func 7 [] []) [] ⟨h,N,w⟩=some (.bool true,⟨h,N,w⟩):=by exact A.known hP.2
def Xap{k d:Nat}(hk:k<=494)(hd:d<=6):k*5^(d+3-1)<=200000000:=by
 have h1:5^(d+3-1)<=5^8:=pc (by omega) (by omega);have h2:=jf hk h1;have:494*5^8=192968750:=by decide
 omega
def BM(l:List aU):Int:=cY (l.map fun s=>((aY s:Nat):Int))
def Yh8{l:List aU}(h:BM l=0):∀s∈l,aY s=0:=by
 induction l with
 |nil=>intro s hs;simp at hs
 |cons a l ih=>
  unfold BM at h ih;rw[lF,cY]at h;by_cases c:((aY a:Nat):Int)=0
  ·rw[aQ c]at h;intro s hs;rcases ku.1 hs with rfl|hs
   ·omega
   exact ih h s hs
  rw[aA c]at h;omega
def tI{c:List V}(h:c.length=4):aE c 0 4=some c:=by unfold aE;rw[h];simp;exact iP (by omega)
def rT{c d:List V}(h:c.length=4)(hd:d.length=4):ag d 0 c=c:=by unfold ag;rw[h];simp[h,hd]
open Go
def Yv5(x:V)(bad:Int)(q:Rat):Prop:=(bad≠0/\x=.aS [.str [],.int .i64 bad])\/(bad=0/\x=if BJ q=true then .aS [.str [],.int .i64 4] else .aS [.str (ax q),.int .i64 0])
def Xau{m e:V}{bad:Int}{q:Rat}{s:aU}{st:St}(hx:Yv5 (.aS [m,e]) bad q)(hs:bad=0->s=ax q)(hq:bad=0->(ax q).length<1000000000):A.C.call (.func 36 [] []) [m,e,.int .i64 bad,.str s] st=some (.bool true,st):=by
 rcases hx with⟨c,hx⟩|⟨c,hx⟩
 ·simp only[V.aS.injEq,gC,and_true]at hx;obtain⟨rfl,rfl⟩:=hx;exact Xbi c
 subst c;rw[hs rfl];by_cases cb:BJ q=true
 ·rw[aQ cb]at hx;simp only[V.aS.injEq,gC,and_true]at hx;obtain⟨rfl,rfl⟩:=hx;exact Xbh (hq rfl) cb
 rw[aA cb]at hx;simp only[V.aS.injEq,gC,and_true]at hx;obtain⟨rfl,rfl⟩:=hx;exact Xbc (hq rfl) (by simpa using cb)
def Yv5.two{x:V}{bad:Int}{q:Rat}(s:Yv5 x bad q):∃a b,x=.aS [a,b]:=by
 rcases s with⟨_,h⟩|⟨_,h⟩
 ·exact⟨_,_,h⟩
 split at h<;>exact⟨_,_,h⟩
def Db(D B:Nat)(q:Rat):Prop:=∃z:Int,q*(D:Rat)=(z:Rat)/\z.natAbs<=B
def Db.own{k:Nat}{q:Rat}(h:Qb k q):Db q.den (2^k) q:=⟨q.num,by
 have h1:=AJ q
 rw[Rat.divInt_eq_div]at h1
 have h2:(((q.den:Nat):Int):Rat)=(q.den:Rat):=rfl
 rw[h2]at h1
 have hD:(q.den:Rat)≠0:=by
  intro hc
  have:((q.den:Nat):Rat)=((0:Nat):Rat):=hc
  rw[Rat.natCast_inj]at this
  have:=q.den_pos
  omega
 grind,by have:=h.1;omega⟩
def sJ(l:List aU):Int:=if 64<l.length then 5 else BM l
structure RnH (g l p:aU) (D:Int) (d:List aU):Prop where
 lg:g.length<=40
 ll:l.length<=40
 lp:p.length<=40
 ld:d.length<100000
 fd:∀s∈d,s.length<=64
 q:ki g l p D=0->Qb 40 (bJ g)/\Qb 40 (bJ l)/\Qb 40 (bJ p)
 s:sJ d=0->d.length<=12
def A.b62:=A.q Tryz.f62
def A.k62:=@A.kk 62 31 [.tmp 4] A.b62 (by kernel_rfl) rfl
def A.w9:=A.q Tryz.f9
def A.ze:=A.ql A.w9 0 []
def A.b9:=(fun x0=>A.qb A.w9 [x0]) A.ze
def A.k9:=@A.kk 9 25 [.tmp 6] A.b9 (by kernel_rfl) rfl
def NP(q:Rat)(d:Nat):Bool:=decide ((av q.num.natAbs).length<=d)&&decide ((av q.den).length<=d)
def uK(s:aU)(d:Nat):Bool:=decide (s.length<=2*d+2)&&(decide (aY s=0)&&NP (bJ s) d)
def pD(l:List aU)(n d:Nat):Bool:=decide (l.length<=n)&&l.all fun s=>uK s d
def Zsm(q:Rat):(aR q.num).length<=(ax q).length:=by unfold ax;split<;>simp
def Ym4{h:T O}{N d:Nat}{s:aU}(hd:d<=100):Fn A.C 62 [.str s,.int .i64 (d:Nat)] h N (fun u _ _=>u=.bool (uK s d)):=by
 intro w;rw[aV,A.k62 (by simp)];by_cases c1:s.length<=2*d+2
 ·have c1':(s.length:Int)<=2*(d:Int)+2:=by omega
  simp(disch:=first|(simp;done)|omega|rfl) [-getElem?_pos,A.b62,c1'];refine az (Yaj (s:=s) (by omega)) ?_;rintro _ h1 n1 k1 rfl;by_cases c2:aY s=0
  ·have et:=(BN c2).1;obtain⟨q,hq⟩:∃q,bJ s=q:=⟨_,rfl⟩;rw[hq]at et;have hl:(ax q).length<1000000000:=by rw[et];omega
   have e1:=fun st=>Yjo (q:=q) (st:=st) hl;have e2:=fun st=>Yk3 (q:=q) (st:=st) hl;rw[et]at e1 e2;have yb:(aR q.num).length<1000000000:=by have:=Zsm q;rw[et]at this;omega
   have e3:=fun st=>Ylk (z:=q.num) (st:=st) yb;by_cases c3:(av q.num.natAbs).length<=d
   ·have c3':((av q.num.natAbs).length:Int)<=(d:Int):=by omega
    by_cases c4:(av q.den).length<=d
    ·have c4':((av q.den).length:Int)<=(d:Int):=by omega
     simp(disch:=first|(simp;done)|omega|rfl) [-getElem?_pos,c2,aL,e1,e2,e3,c3',c4',aF];exact⟨k1,by simp[uK,NP,c1,c2,hq,c3,c4]⟩
    have c4':¬((av q.den).length:Int)<=(d:Int):=by omega
    simp(disch:=first|(simp;done)|omega|rfl) [-getElem?_pos,c2,aL,e1,e2,e3,c3',c4',aF];exact⟨k1,by simp[uK,NP,c1,c2,hq,c3,c4]⟩
   have c3':¬((av q.num.natAbs).length:Int)<=(d:Int):=by omega
   simp(disch:=first|(simp;done)|omega|rfl) [-getElem?_pos,c2,aL,e1,e2,e3,c3',aF];exact⟨k1,by simp[uK,NP,c1,c2,hq,c3]⟩
  have c2':¬((aY s:Nat):Int)=0:=by omega
  simp(disch:=first|(simp;done)|omega|rfl) [-getElem?_pos,c2,c2',aL,aF];exact⟨k1,by simp[uK,c2]⟩
 have c1':¬(s.length:Int)<=2*(d:Int)+2:=by omega
 simp(disch:=first|(simp;done)|omega|rfl) [-getElem?_pos,A.b62,c1',aF];exact⟨ae.refl,by simp[uK,c1]⟩
def Zua{h:T O}{N d n:Nat}{v:V}{l:List aU}(hs:Sl h N v (strs l))(hl:l.length<9223372036854775808)(hd:d<=100)(hn:n<=1000):Fn A.C 9 [v,.int .i64 (n:Nat),.int .i64 (d:Nat)] h N (fun u _ _=>u=.bool (pD l n d)):=by
 intro w;have hlen:=hs.len;rw[BL]at hlen;rw[aV,A.k9 (by simp)];by_cases c0:l.length<=n
 ·have c0':¬(n:Int)<(l.length:Int):=by omega
  have e0:pD l n d=l.all fun s=>uK s d:=by simp[pD,c0]
  rw[e0];simp(disch:=first|(simp;done)|omega|rfl) [-getElem?_pos,A.b9,hlen,c0'];refine c_ [(6,7),(12,24)] (fun e r st=>aD N st.w=[]/\ae h N st.h st.n/\((e=.exit 0/\(l.all fun s=>uK s d)=true)\/(e=.ret/\(l.all fun s=>uK s d)=false/\r.get 6=some (.bool false)))) (fun m r st=>aD N st.w=[]/\ae h N st.h st.n/\∃k,k+m=l.length/\r.get 7=some (.int .i64 k)/\(l.all fun s=>uK s d)=((l.drop k).all fun s=>uK s d)) l.length ?_ ?_ ?_
  ·exact⟨by simp,ae.refl,0,by omega,by simp,by simp⟩
  ·rintro m r ⟨H,n1,W⟩ hr hf ⟨hW,hK,k,hk,h7,hz⟩;simp only at hW hK;rw[dk];cases m with
   |zero=>
    obtain rfl:k=l.length:=by omega
    rw[vR,List.all_nil]at hz;simp(disch:=first|(simp;done)|omega|rfl) [-getElem?_pos,A.ze,hr,hf,h7,hlen,hW,hK];simpa using hz
   |succ m=>
    have aP:k<l.length:=by omega
    have dE:(k:Int)<(l.length:Int):=by omega
    obtain⟨s,hsk⟩:=fz aP;obtain⟨i,o,cc,e,rw,q1,q2,q3,q4⟩:=(hs.ah hK).at (Lc hsk);rw[qk hsk,List.all_cons]at hz;simp(disch:=first|(simp;done)|omega|rfl) [-getElem?_pos,A.ze,hr,hf,h7,hlen,aP,dE,q1,q2,q3,q4];refine az (Ym4 (s:=s) hd) ?_;rintro _ h3 n3 k3 rfl;have kk:=hK.trans k3;cases yc:uK s d with
    |true=> rw[yc,Bool.true_and]at hz;simp(disch:=first|(simp;done)|omega|rfl) [-getElem?_pos,hr,hf,h7,hW];exact⟨m,by omega,kk,k+1,by omega,by simp,by simpa using hz⟩
    |false=> rw[yc,Bool.false_and]at hz;simp(disch:=first|(simp;done)|omega|rfl) [-getElem?_pos,hr,hf,h7,hW];exact⟨kk,by simpa using hz⟩
  rintro e r ⟨H,n1,W⟩ hr ⟨hW,hK,⟨rfl,hz⟩|⟨rfl,hz,h6⟩⟩
  ·simp only at hW hK;simp(disch:=first|(simp;done)|omega|rfl) [-getElem?_pos,hr,aF,hW,hK];simpa using hz
  simp only at hW hK;simp(disch:=first|(simp;done)|omega|rfl) [-getElem?_pos,hr,h6,aF,hW,hK];simpa using hz
 have c0':(n:Int)<(l.length:Int):=by omega
 simp(disch:=first|(simp;done)|omega|rfl) [-getElem?_pos,A.b9,hlen,c0',aF];exact⟨ae.refl,by simp[pD,c0]⟩
def A.b8:=A.q Tryz.f8
def A.k8:=@A.kk 8 31 [.tmp 6] A.b8 (by kernel_rfl) rfl
def Zyr{g l p:aU}{D:Int}{n dd:Nat}{h:T O}{N:Nat}(hg:g.length<=40)(hl:l.length<=40)(hp:p.length<=40)(hd:dd<=100)(hn:n<=1000):Fn A.C 8 [.agg [.str g,.str l,.str p,.int .i64 D],.int .i64 (dd:Nat),.int .i64 (n:Nat)] h N (fun u _ _=>u=.bool (decide (ki g l p D=0)&&(pD [g,l,p] 3 dd&&decide (D<=(n:Int))))):=by
 intro w;have kB:ae h N (h.set N (.cells [.str g,.str l,.str p,.int .i64 D] 26 true)) (N+1):=ae.refl.new _;have b0:(h.set N (.cells [.str g,.str l,.str p,.int .i64 D] 26 true)).get N=some (.cells [.str g,.str l,.str p,.int .i64 D] 26 true):=by simp
 rw[aV,A.k8 (by simp)];simp(disch:=first|(simp;done)|omega|rfl) [-getElem?_pos,A.b8,aJ,aE];generalize h.set N (.cells [.str g,.str l,.str p,.int .i64 D] 26 true)=HB at*;refine az (Zu3 (by omega) (by omega) (by omega)) ?_;rintro _ h1 n1 k1 rfl;have uw:=k1.le;have b1:=(k1.get N (by omega)).trans b0;have l1:N<n1:=by omega
 simp(disch:=first|(simp;done)|omega|rfl) [-getElem?_pos,hg,hl,hp,b1,l1,aJ,aE];refine az (Yja (by omega) (by omega) (by omega)) ?_;rintro _ h2 n2 k2 rfl;have oP:=k2.le;have b2:=(k2.get N (by omega)).trans b1;have l2:N<n2:=by omega
 by_cases c:ki g l p D=0
 ·have kS:ae h2 n2 (h2.set n2 (.cells [.str g,.str l,.str p] 22 true)) (n2+1):=ae.refl.new _;have sl3:Sl (h2.set n2 (.cells [.str g,.str l,.str p] 22 true)) (n2+1) (.slice n2 0 3 (some 3) 1) (strs [g,l,p]):=Sl.row (e:=22) (rw:=true) (cp:=some 3) (by omega) (by simp[strs]) rfl (by simp);have b3:=(kS.get N (by omega)).trans b2;simp(disch:=first|(simp;done)|omega|rfl) [-getElem?_pos,c,aL,b2,l2,ag];have fl:=Zua (d:=dd) (n:=3) sl3 (by simp) hd (by decide);refine az fl ?_;rintro _ h3 n3 k3 rfl;have xX:=k3.le;have b4:=(k3.get N (by omega)).trans b3;have l3:N<n3:=by omega
  by_cases c2:pD [g,l,p] 3 dd=true
  ·simp(disch:=first|(simp;done)|omega|rfl) [-getElem?_pos,c2,b4,l3,aF];exact((kB.trans k1).trans k2).trans (kS.trans k3)
  have c2':pD [g,l,p] 3 dd=false:=by simpa using c2
  simp(disch:=first|(simp;done)|omega|rfl) [-getElem?_pos,c2',b4,l3,aF];exact((kB.trans k1).trans k2).trans (kS.trans k3)
 simp(disch:=first|(simp;done)|omega|rfl) [-getElem?_pos,c,aL,aF];exact(kB.trans k1).trans k2
def Ynm{g l p:Rat}{D k:Nat}(hk:k<=D+2):pg (zgn g l p D) (D+2-k)=(if k=0 then 1 else 0)+(if k=1 then -l else 0)+(if k=D+1 then g+p else 0)+(if k=D+2 then -p else 0):=by
 unfold zgn pg;by_cases h2:k=D+2
 ·subst h2;rw[show D+2-(D+2)=0 by omega,sI (by simp)];rw[aA (by omega),aA (by omega),aA (by omega),aQ rfl];simp only[Yxv];grind
 rw[eR (by omega)];by_cases h1:k=D+1
 ·subst h1;rw[show D+2-(D+1)=1 by omega,sI (by simp)];simp only[Yxv];by_cases hD:D=0
  ·subst hD;simp;grind
  rw[aA hD,aA (show ¬D+1=0 by omega),aA (show ¬D+1=1 by omega),aQ True.intro,aA (show ¬D+1=D+2 by omega)];grind
 rw[eR (by omega),aA h1,aA h2];by_cases ew:k=1
 ·subst ew;rw[show D+2-1=D+1 by omega,sI (by simp),aA (by omega),aQ rfl];simp only[Yxv];grind
 rw[eR (by omega),aA ew];by_cases Bj:k=0
 ·subst Bj;rw[Nat.sub_zero,sI (by simp),aQ rfl];simp only[Yxv];grind
 rw[eR (by omega),aA Bj];have aP:D+2-k<D+3:=by omega
 simp[aP];grind
end
end Go.Mx
