/-lensletref01-/
import Derived.Test.YtgccnjdneojagaaGreatDoorMxDec
set_option linter.all false
namespace Go.Mx
noncomputable section
open Go Go.Proofs
variable {s:aG}
set_option maxRecDepth 1000000
def A.w73:=A.q Tryz.f73
def A.uf:=A.ql A.w73 0 []
def A.b73:=(fun x0=>A.qb A.w73 [x0]) A.uf
def A.k73:=@A.kk 73 17 [.tmp 2] A.b73 (by kernel_rfl) rfl
def A.Rb:=A.q Tryz.f144
def A.mr:=A.ql A.Rb 0 []
def A.b144:=(fun x0=>A.qb A.Rb [x0]) A.mr
def A.k144:=@A.kk 144 20 [.tmp 2] A.b144 (by kernel_rfl) rfl
def A.b74:=A.q Tryz.f74
def A.k74:=@A.kk 74 18 [.tmp 2] A.b74 (by kernel_rfl) rfl
def A.Rc:=A.q Tryz.f148
def A.ui:=A.ql A.Rc 0 []
def A.b148:=(fun x0=>A.qb A.Rc [x0]) A.ui
def A.k148:=@A.kk 148 20 [.tmp 2] A.b148 (by kernel_rfl) rfl
def Hm{st:St}(hl:s.length<9223372036854775808):A.C.call (.func 73 [] []) [.str s] st=some (.int .i64 (ah s:Nat),st):=by
 apply Call.eq;rw[aQ,A.k73 (by simp)];simp(disch:=first|(simp;done)|omega|rfl) [-getElem?_pos,A.b73];refine b_ [(2,14)] (fun e r s1=>s1=⟨st.h,st.n,[]⟩/\((e=.exit 0/\ah s=s.length)\/(e=.ret/\r.get 2=some (.int .i64 (ah s:Nat))))) (fun m r s1=>s1=⟨st.h,st.n,[]⟩/\∃k,k+m=s.length/\r.get 3=some (.int .i64 k)/\ah s=k+ah (s.drop k)) s.length ?_ ?_ ?_
 ·exact⟨rfl,0,by omega,by simp,by simp⟩
 ·rintro m r _ hr hf ⟨rfl,k,hk,h3,hz⟩;rw[bu];cases m with
  |zero=>
   have:k=s.length:=by omega
   subst this;rw[qZ,ah]at hz;simp(disch:=first|(simp;done)|omega|rfl) [-getElem?_pos,A.uf,hr,hf,h3];omega
  |succ m=>
   obtain⟨c,hc⟩:=bj (l:=s) (k:=k) (by omega);have cK:(k:Int)<(s.length:Int):=by omega
   have kh:k<s.length:=by omega
   rw[nf hc,ah]at hz;by_cases h47:cX c=47
   ·rw[av (by unfold cX at h47;omega)]at hz;simp(disch:=first|(simp;done)|omega|rfl) [-getElem?_pos,A.uf,hr,hf,h3,cK,hc,h47];rw[hz];simp
   rw[ak (by unfold cX at h47;omega)]at hz;simp(disch:=first|(simp;done)|omega|rfl) [-getElem?_pos,A.uf,hr,hf,h3,cK,hc,h47];exact⟨m,by omega,k+1,by omega,by simp,by omega⟩
 rintro e r _ hr ⟨rfl,⟨rfl,hz⟩|⟨rfl,h2⟩⟩
 ·simp(disch:=first|(simp;done)|omega|rfl) [-getElem?_pos,hr,hz]
 simp(disch:=first|(simp;done)|omega|rfl) [-getElem?_pos,h2]
def Yjh{st:St}(hl:s.length<9223372036854775808):A.C.call (.func 144 [] []) [.str s] st=some (.bool (cN s),st):=by
 apply Call.eq;rw[aQ,A.k144 (by simp)];simp(disch:=first|(simp;done)|omega|rfl) [-getElem?_pos,A.b144];refine b_ [(2,19)] (fun e r s1=>s1=⟨st.h,st.n,[]⟩/\((e=.exit 0/\cN s=true)\/(e=.ret/\cN s=false/\r.get 2=some (.bool false)))) (fun m r s1=>s1=⟨st.h,st.n,[]⟩/\∃k,k+m=s.length/\r.get 3=some (.int .i64 k)/\cN s=cN (s.drop k)) s.length ?_ ?_ ?_
 ·exact⟨rfl,0,by omega,by simp,by simp⟩
 ·rintro m r _ hr hf ⟨rfl,k,hk,h3,hz⟩;rw[bu];cases m with
  |zero=>
   have:k=s.length:=by omega
   subst this;rw[qZ]at hz;have hz:cN s=true:=hz;simp(disch:=first|(simp;done)|omega|rfl) [A.mr,hr,hf,h3,hz]
  |succ m=>
   obtain⟨c,hc⟩:=bj (l:=s) (k:=k) (by omega);have cK:(k:Int)<(s.length:Int):=by omega
   have kh:k<s.length:=by omega
   have eQ:cN s=(mQ c&&cN (s.drop (k+1))):=by rw[hz,nf hc];rfl
   rw[Yjj]at eQ;by_cases h1:cX c<48
   ·have:¬(48<=cX c/\cX c<=57):=by omega
    rw[decide_eq_false this,EA]at eQ;simp(disch:=first|(simp;done)|omega|rfl) [-getElem?_pos,A.mr,hr,hf,h3,cK,hc,h1,eQ]
   by_cases h2:57<cX c
   ·have:¬(48<=cX c/\cX c<=57):=by omega
    rw[decide_eq_false this,EA]at eQ;simp(disch:=first|(simp;done)|omega|rfl) [-getElem?_pos,A.mr,hr,hf,h3,cK,hc,h1,h2,eQ]
   have:(48<=cX c/\cX c<=57):=by omega
   rw[decide_eq_true this,Bool.true_and]at eQ;simp(disch:=first|(simp;done)|omega|rfl) [-getElem?_pos,A.mr,hr,hf,h3,cK,hc,h1,h2];exact⟨m,by omega,k+1,by omega,by simp,eQ⟩
 rintro e r _ hr ⟨rfl,⟨rfl,hz⟩|⟨rfl,hz,h2⟩⟩
 ·simp(disch:=first|(simp;done)|omega|rfl) [-getElem?_pos,hz]
 simp(disch:=first|(simp;done)|omega|rfl) [-getElem?_pos,h2,hz]
def Re{s:aG}{st:St}(hl:s.length<9223372036854775808):A.C.call (.func 74 [] []) [.str s] st=some (.bool (jH s),st):=by
 apply Call.eq;rw[aQ,A.k74 (by simp)];cases s with
 |nil=>simp[A.b74,jH]
 |cons c s=>
  have hd:jH (c::s)=(cN (c::s)&&(decide (cX c≠48)||decide (s=[]))):=by
   have:decide (c.toNat≠48)=decide (cX c≠48):=by unfold cX;rw[decide_eq_decide];omega
   simp only[jH,this];rfl
  have hdg:=fun st=>Yjh (s:=c::s) (st:=st) hl;by_cases h0:s=[]
  ·subst h0;simp[A.b74,hd,hdg]
  have h1:0<s.length:=by
   cases s with
   |nil=>exact absurd rfl h0
   |cons=>simp
  have a1:¬((s.length:Int)+1=0):=by omega
  have a2:(1:Int)<(s.length:Int)+1:=by omega
  have a3:(0:Int)<(s.length:Int):=by omega
  by_cases h48:cX c=48
  ·simp[A.b74,hd,h0,a1,a2,h48]
  simp[A.b74,hd,hdg,h0,a1,a2,h48]
def Rf{st:St}(hd:cN s=true)(hl:s.length<=18):A.C.call (.func 148 [] []) [.str s] st=some (.int .i64 (aF s:Nat),st):=by
 apply Call.eq;rw[aQ,A.k148 (by simp)];simp[A.b148];refine b_ [(3,18)] (fun e r s1=>s1=⟨st.h,st.n,[]⟩/\e=.exit 0/\r.get 3=some (.int .i64 (aF s:Nat))) (fun m r s1=>s1=⟨st.h,st.n,[]⟩/\∃k,k+m=s.length/\r.get 4=some (.int .i64 k)/\r.get 3=some (.int .i64 (aF (s.take k):Nat))) s.length ?_ ?_ ?_
 ·exact⟨rfl,0,by omega,by simp,by simp[aF]⟩
 ·rintro m r _ hr hf ⟨rfl,k,hk,h4,h3⟩;rw[bu];cases m with
  |zero=>
   have:k=s.length:=by omega
   subst this;rw[Dj]at h3;simp[A.ui,hr,hf,h4,h3]
  |succ m=>
   obtain⟨c,hc⟩:=bj (l:=s) (k:=k) (by omega);have cK:(k:Int)<(s.length:Int):=by omega
   have kh:k<s.length:=by omega
   have vN:=OE hd hc;have hv:=Zpy hc;have MR:=T2 hd k (by omega);have sM:=T3 (a:=k) (b:=17) (by omega);have b3:((aF (s.take (k+1)):Nat):Int)=10*(aF (s.take k):Nat)+cX c-48:=by rw[hv];unfold cX at*;omega
   have b4:((aF (s.take k):Nat):Int)<100000000000000000:=by
    have:(10:Nat)^17=100000000000000000:=by decide
    omega
   generalize hy:aF (s.take (k+1))=y at*;generalize aF (s.take k)=x at*;simp(disch:=first|(simp;done)|omega|rfl) [-getElem?_pos,A.ui,hr,hf,h4,h3,cK,hc];exact⟨m,by omega,k+1,by omega,by simp,by rw[hy,b3]⟩
 rintro e r _ hr ⟨rfl,rfl,h3⟩;simp[h3]
def A.Rh:=A.q Tryz.f217
def A.pk:=A.ql A.Rh 0 []
def A.b217:=(fun x0=>A.qb A.Rh [x0]) A.pk
def A.k217:=@A.kk 217 21 [.tmp 2] A.b217 (by kernel_rfl) rfl
def A.b153:=A.q Tryz.f153
def A.k153:=@A.kk 153 15 [.cell 4 (some 2)] A.b153 (by kernel_rfl) rfl
def A.Ri:=A.q Tryz.f155
def A.mw:=A.ql A.Ri 0 []
def A.b155:=(fun x0=>A.qb A.Ri [x0]) A.mw
def A.k155:=@A.kk 155 41 [.tmp 4] A.b155 (by kernel_rfl) rfl
def A.Rj:=A.q Tryz.f216
def A.uj:=A.ql A.Rj 0 []
def A.b216:=(fun x0=>A.qb A.Rj [x0]) A.uj
def A.k216:=@A.kk 216 39 [.tmp 4,.tmp 5] A.b216 (by kernel_rfl) rfl
def JP{h:T O}{N:Nat}{v:V}{l:List Int}(hs:Sl h N v (dI l))(hl:l.length<1152921504606846976):Fn A.C 217 [v] h N (fun v' h' N'=>Sl h' N' v' (dI (tF l))):=by
 intro w;rw[aQ,A.k217 (by simp)];simp[A.b217];refine b_ [(0,0),(3,19)] (fun e r st=>e=.exit 0/\st=⟨h,N,[]⟩/\∃u,r.get 0=some u/\Sl h N u (dI (tF l))) (fun m r st=>st=⟨h,N,[]⟩/\m<=l.length/\∃u,r.get 0=some u/\Sl h N u (dI (l.take m))/\tF (l.take m)=tF l) l.length ?_ ?_ ?_
 ·exact⟨rfl,aM _,v,rfl,by rw[Dj];exact hs,by rw[Dj]⟩
 ·rintro m r _ hr hf ⟨rfl,hm,u,h0,hu,ht⟩;rw[bu];have lu:=hu.len;rw[h_,ik,ry hm]at lu;cases m with
  |zero=> simp[A.pk,hf,h0,lu];rw[<-ht];exact hu
  |succ k=>
   obtain⟨d,hd⟩:=bj (l:=l) (k:=k) (by omega);have VH:(l.take (k+1))[k]?=some d:=by rw[jZ,av (by omega)];exact hd
   obtain⟨i,o,c,e,rw,q1,q2,q3,q4⟩:=hu.at (iB VH);have e1:l.take (k+1)=l.take k++[d]:=by rw[C1,hd];rfl
   have k1:(0:Int)<(k:Int)+1:=by omega
   have k2:(k:Int)<(k:Int)+1:=by omega
   have k3:(k:Int)+1-1=(k:Int):=by omega
   by_cases hz:d=0
   ·subst hz;rw[e1,Zm7]at ht;obtain⟨v',x1,x2⟩:=MF (w:=[]) hu (lo:=0) (hi:=k) (wx _) (by rw[h_,ik];omega) none (some (.int .i64 k)) (.inr ⟨rfl,rfl⟩) (.inl rfl);have x3:((dI (l.take (k+1))).take k).drop 0=dI (l.take k):=by rw[BB,dI,<-List.map_take,List.take_take,ry (by omega)];rfl
    rw[x3]at x2;simp(disch:=first|(simp;done)|omega|rfl) [A.pk,hf,h0,lu,k1,k3,q1,q3,q4,F7,aC,x1];exact⟨k,by omega,by omega,x2,ht⟩
   rw[e1,Zrl hz,<-e1]at ht;simp(disch:=first|(simp;done)|omega|rfl) [A.pk,hf,h0,lu,k1,k3,q1,q3,q4,hz];rw[<-ht];exact hu
 rintro _ r _ hr ⟨rfl,rfl,u,h0,hu⟩;simp[h0,az];exact⟨ab.refl,hu⟩
def Rg(h:T O)(N:Nat)(v:V)(z:Int):Prop:=∃u,v=.agg [.bool (decide (z<0)),u]/\Dn h N u z.natAbs
def zp{h:T O}{N:Nat}{v:V}{l:List Int}{b:Bool}{n:Nat}(hs:Sl h N v (dI l))(hd:Di l)(hn:vI l=n)(hl:l.length<1152921504606846976):Fn A.C 153 [.bool b,v] h N (fun v' h' N'=>Rg h' N' v' (if b=true then -(n:Int) else n)):=by
 intro w;rw[aQ,A.k153 (by simp)];simp[A.b153];refine ar (JP (hs.ad (ab.refl.new _)) hl) ?_;rintro u h1 n1 k1 hu;rw[Jr hd hn]at hu;have lu:=hu.len;rw[h_]at lu;have uM:=k1.le;have aA:=k1.get N (by omega);simp at aA;have DT:=hu.form.one;have VI:=hu.form.cells;unfold V.one at DT;unfold V.cells at VI;have k0:=(ab.refl (h:=h) (n:=N)).new (.cells [.bool false,.aa] 105 true);have kx:=fun o=>((k0.trans k1).set (i:=N) (o:=o) (aM N));have fX:=fun c1 (hc:c1.length=2)=>hu.setInt (i:=N) (c1:=c1) (e1:=105) (w1:=true) aA (by intro x hx k m;simp at hx;rcases hx with rfl|rfl<;>simp) hc;cases b with
 |false=>
  simp[ae,aA,DT,VI,bO,aS,aP,az];refine⟨kx _,u,?_,?_⟩
  ·have:¬(n:Int)<0:=by omega
   simp
  exact fX _ rfl
 |true=>
  by_cases hz:n=0
  ·have cB:(ds n).length=0:=by rw[hz,vG];rfl
   simp[lu,cB,ae,aA,DT,VI,bO,aS,aP,az];refine⟨kx _,u,?_,?_⟩
   ·simp[hz]
   simpa[hz,Dn]using fX _ rfl
  have cB:¬(ds n).length=0:=fun hc=>hz (EL.1 (th hc));have JF:(0:Int)<((ds n).length:Int):=by omega
  have jq:0<(ds n).length:=by omega
  have hl3:ds n≠[]:=fun hc=>hz (EL.1 hc);simp[lu,jq,ae,aA,DT,VI,bO,aS,aP,az];refine⟨kx _,u,?_,?_⟩
  ·have: -(n:Int)<0:=by omega
   simp;try omega
  simpa[Dn]using fX _ rfl
def wL:∀{b a:Nat},a<=b->(ds a).length<=(ds b).length:=by
 intro b;induction b using Nat.strongRecOn with
 |_ b ih=>
  intro a h;by_cases h0:a=0
  ·rw[h0,vG];simp
  rw[BJ h0,BJ (n:=b) (by omega)];have:=ih (b/1000000000) (Ez (by omega) (by decide)) (a:=a/1000000000) (Nat.div_le_div_right h);simp only[bl];omega
def Rk{A:List Int}{k:Nat}{x:Int}(hx:A[k]?=some x):vI A=vI (A.take k)+pI k*(x+1000000000*vI (A.drop (k+1))):=by have hk:=gI hx;rw[OB A k (by omega),nf hx,vI]
def Yql{A B:List Int}{k:Nat}{x y:Int}(hA:Di A)(hB:Di B)(hx:A[k]?=some x)(hy:B[k]?=some y)(he:A.drop (k+1)=B.drop (k+1))(VJ:x<y):vI A<vI B:=by
 have hk:=gI hx;rw[Rk hx,Rk hy,he];have h1:=xJ (hA.take k);have h2:=xI (hB.take k);rw[ik,ry (by omega)]at h1;have h3:pI k*(x+1000000000*vI (B.drop (k+1))+1)<=pI k*(y+1000000000*vI (B.drop (k+1))):=tB (by omega) (wJ (EI k));have h4:pI k*(x+1000000000*vI (B.drop (k+1))+1)=pI k*(x+1000000000*vI (B.drop (k+1)))+pI k:=by grind
 omega
def DJ(a b:Nat):Int:=if a<b then -1 else if b<a then 1 else 0
def Zy9{h:T O}{N:Nat}{u v:V}{a b:Nat}{w:List Nat}(hu:Dn h N u a)(hv:Dn h N v b)(hl:(ds a).length<1152921504606846976)(jq:(ds b).length<1152921504606846976):A.C.call (.func 155 [] []) [u,v] ⟨h,N,w⟩=some (.int .i64 (DJ a b),⟨h,N,w⟩):=by
 apply Call.eq;have lu:=hu.len;have lv:=hv.len;rw[h_]at lu lv;have va:=iC a;have vb:=iC b;have da:=ig a;have db:=ig b;rw[aQ,A.k155 (by simp)];unfold DJ;by_cases h1:(ds a).length=(ds b).length
 ·have g_:((ds a).length:Int)=((ds b).length:Int):=by omega
  simp(disch:=omega) [A.b155,lu,lv,h1];generalize hA:ds a=X at*;generalize hB:ds b=Y at*;refine b_ [(4,5),(19,40)] (fun e r st=>st=⟨h,N,[]⟩/\((e=.exit 0/\a=b)\/(e=.ret/\a<b/\r.get 4=some (.int .i64 (-1)))\/(e=.ret/\b<a/\r.get 4=some (.int .i64 1)))) (fun m r st=>st=⟨h,N,[]⟩/\m<=X.length/\r.get 5=some (.int .i64 ((m:Int)-1))/\X.drop m=Y.drop m) X.length ?_ ?_ ?_
  ·exact⟨rfl,aM _,by simp[h1],by rw[qZ,h1,qZ]⟩
  ·rintro m r _ hr hf ⟨rfl,hm,h5,he⟩;rw[bu];cases m with
   |zero=>
    have:a=b:=by simp at he;rw[he]at va;omega
    simp[A.mw,hf,h5,this]
   |succ k=>
    obtain⟨x,hx⟩:=bj (l:=X) (k:=k) (by omega);obtain⟨y,hy⟩:=bj (l:=Y) (k:=k) (by omega);obtain⟨b1,b2,b3,b4,b5,z1,z2,z3,z4⟩:=Sl.at (show Sl h N u (dI (ds a)) from hu) (by rw[hA];exact iB hx);obtain⟨c1,c2,c3,c4,c5,y1,y2,y3,y4⟩:=Sl.at (show Sl h N v (dI (ds b)) from hv) (by rw[hB];exact iB hy);have sS:(((k+1:Nat):Int)-1)=(k:Int):=by omega
    rw[sS]at h5;have cK:(k:Int)<(X.length:Int):=by omega
    have kh:(k:Int)<(Y.length:Int):=by omega
    have DL:(0:Int)<=(k:Int):=by omega
    have hk4:k<Y.length:=by omega
    by_cases aE:x<y
    ·have:=Yql da db hx hy he aE;have f_:a<b:=by omega
     simp[A.mw,hr,hf,h5,lu,lv,cK,kh,DL,z1,z2,z3,z4,y1,y2,y3,y4,aE,f_]
    by_cases Mp:y<x
    ·have:=Yql db da hy hx he.symm Mp;have f_:b<a:=by omega
     have KE:¬a<b:=by omega
     simp[A.mw,hr,hf,h5,lu,lv,cK,kh,DL,z1,z2,z3,z4,y1,y2,y3,y4,aE,Mp,f_,KE]
    have VJ:x=y:=by omega
    simp(disch:=first|(simp;done)|omega|rfl) [A.mw,hr,hf,h5,lu,lv,DL,z1,z2,z3,z4,y1,y2,y3,y4,aE,Mp];exact⟨k,by omega,by omega,rfl,by rw[nf hx,nf hy,he,VJ]⟩
  rintro e r _ hr ⟨rfl,⟨rfl,hz⟩|⟨rfl,hz,h4⟩|⟨rfl,hz,h4⟩⟩
  ·simp[hz]
  ·simp[h4,hz]
  have:¬a<b:=by omega
  simp[h4,hz,this]
 have g_:¬((ds a).length:Int)=((ds b).length:Int):=by omega
 by_cases h2:(ds a).length<(ds b).length
 ·have f_:a<b:=by apply vC;intro hc;have:=wL hc;omega
  simp[A.b155,lu,lv,h1,h2,f_]
 have f_:b<a:=by apply vC;intro hc;have:=wL hc;omega
 have KE:¬a<b:=by omega
 simp[A.b155,lu,lv,h1,h2,f_,KE]
structure DdA (h:T O) (N:Nat) (l:List Int) (d:Int) (m:Nat) (r:T V) (st:St):Prop where
 w:ay N st.w=[]
 ad:ab h N st.h (N+1)
 n:st.n=N+1
 r8:r.get 8=some (.int .i64 ((m:Int)-1))
 hm:m<=l.length
 ex:∃out rest,st.h.get N=some (.cells (dI out) 3 true)/\out.length=l.length/\r.get 7=some (.int .i64 rest)/\0<=rest/\rest<d/\Di (out.drop m)/\vI (out.drop m)*d+rest=vI (l.drop m)
def Zqn{h:T O}{N:Nat}{v:V}{l:List Int}{d:Int}(hs:Sl h N v (dI l))(hd:Di l)(hl:l.length<1099511627776)(h0:0<d)(h1:d<1000000000):Fn A.C 216 [v,.int .i64 d] h N (fun u h' n'=>∃q,u=.aX [q,.int .i64 ((vI l).toNat%d.toNat:Nat)]/\Dn h' n' q ((vI l).toNat/d.toNat)):=by
 intro w;have lv:=hs.len;rw[h_]at lv;rw[aQ,A.k216 (by simp)];simp(disch:=first|(simp;done)|omega|rfl) [A.b216,lv];refine b_ [(7,9),(16,35)] (fun e r st=>e=.exit 0/\DdA h N l d 0 r st) (DdA h N l d) l.length ?_ ?_ ?_
 ·refine⟨by simp,ab.refl.new _,rfl,by simp,aM _,List.replicate l.length 0,0,by simp[Zt6],by simp,by simp,by omega,h0,?_,?_⟩
  ·rw[BA (by simp)];exact Di.nil
  rw[BA (by simp),qZ];simp[vI]
 ·rintro m r ⟨H,n1,W⟩ hr hf ⟨hW,hK,hn,h8,hm,out,rest,aA,iM,h7,ib,HE,jF,hv⟩;simp only at hW hK hn aA;subst hn;rw[bu];cases m with
  |zero=> simp[A.uj,hf,h8];exact⟨hW,hK,rfl,by simpa using h8,hm,out,rest,aA,iM,by simp[h7],ib,HE,jF,hv⟩
  |succ k=>
   obtain⟨x,hx⟩:=bj (l:=l) (k:=k) (by omega);obtain⟨b1,b2,b3,b4,b5,z1,z2,z3,z4⟩:=hs.at (iB hx);have z3:=(hK.get _ z2).trans z3;have Rl:=hd.get hx;have sS:(((k+1:Nat):Int)-1)=(k:Int):=by omega
   rw[sS]at h8;have cK:(k:Int)<(l.length:Int):=by omega
   have kh:k<l.length:=by omega
   have DL:(0:Int)<=(k:Int):=by omega
   have w1:bn .i64 (rest*1000000000)=rest*1000000000:=cL (by omega) (by omega);have w2:bn .i64 (rest*1000000000+x)=rest*1000000000+x:=cL (by omega) (by omega);have s0:0<=rest*1000000000+x:=by omega
   have qN:¬d=0:=by omega
   have t1:(rest*1000000000+x).tdiv d=(rest*1000000000+x)/d:=Dh s0;have t2:(rest*1000000000+x).tmod d=(rest*1000000000+x)%d:=Gg s0;have t3:=Gj (rest*1000000000+x) d;have t4:0<=(rest*1000000000+x)/d:=Int.ediv_nonneg s0 (by omega);have t5:(rest*1000000000+x)/d<1000000000:=by apply Int.ediv_lt_of_lt_mul h0;omega
   have t6:=Gl (rest*1000000000+x) qN;have t7:=Gf (rest*1000000000+x) h0;have w3:bn .i64 ((rest*1000000000+x)/d)=(rest*1000000000+x)/d:=cL (by omega) (by omega);have w8:=h_ out;have w7:=Dy (l:=out) (k:=k) (v:=(rest*1000000000+x)/d) (by omega);simp(disch:=first|(simp;done)|omega|rfl) [A.uj,hr,hf,h8,h7,DL,lv,z1,z3,z4,w1,w2,w3,t1,t2,aA,w7];have e1:(out.set k ((rest*1000000000+x)/d)).drop k=((rest*1000000000+x)/d)::out.drop (k+1):=by rw[nf (d:=(rest*1000000000+x)/d) (by rw[jW (by omega)])];rw[List.drop_set_of_lt (by omega)]
   generalize (rest*1000000000+x)/d=q at*;generalize (rest*1000000000+x)%d=r' at*;refine⟨k,by omega,⟨by simp[ay,hW],hK.set (aM N),rfl,by simp,by omega,out.set k q,r',by simp,by simp[iM],by simp,t6,t7,?_,?_⟩⟩
   ·rw[e1];exact Di.app (Di.one t4 t5) jF
   rw[e1,nf hx,vI,vI,<-hv];grind
 rintro _ r ⟨H,n1,W⟩ hr ⟨rfl,hW,hK,hn,h8,hm,out,rest,aA,iM,h7,ib,HE,jF,hv⟩;simp only at hW hK hn aA;subst hn;rw[BB,BB]at*;have nR:Sl H (N+1) (.slice N 0 l.length (some l.length) 1) (dI out):=Sl.row (by omega) aA (by simp[iM]) (fun k hk=>by simp at hk;omega);simp[hr];refine ar (JP nR (by omega)) ?_;rintro u h2 n2 k2 hu;have hvo:=xI jF;have VK:=xI hd;have m1:(vI l).toNat/d.toNat=(vI out).toNat:=by
  have:(vI l)/d=vI out:=by rw[<-hv,Int.mul_comm,Int.add_comm,Int.add_mul_ediv_left _ _ (by omega),Int.ediv_eq_zero_of_lt ib HE];omega
  rw[<-this];obtain⟨a,ha⟩:=Gi VK;obtain⟨b,hb⟩:=Gi (wJ h0);rw[ha,hb];rfl
 have m2:(((vI l).toNat%d.toNat:Nat):Int)=rest:=by
  have:(vI l)%d=rest:=by rw[<-hv,Int.mul_comm,Int.add_comm,Int.add_mul_emod_self_left,Int.emod_eq_of_lt ib HE]
  rw[<-this];obtain⟨a,ha⟩:=Gi VK;obtain⟨b,hb⟩:=Gi (wJ h0);rw[ha,hb];rfl
 rw[Zsu jF]at hu;have m2':rest=max (vI l) 0%max d 0:=by rw[<-m2];simp
 simp[h7,az,hW];refine⟨hK.trans k2,u,⟨rfl,m2'⟩,?_⟩;rw[m1];exact hu
def A.KF:=A.q Tryz.f157
def A.uk:=A.ql A.KF 1 []
def A.uo:=(fun x0=>A.ql A.KF 0 [x0]) A.uk
def A.b157:=(fun x0=>A.qb A.KF [x0]) A.uo
def A.k157:=@A.kk 157 72 [.tmp 4] A.b157 (by kernel_rfl) rfl
structure MuB (h:T O) (N:Nat) (la lb:List Int) (i:Nat) (zaN:List Int) (a:Int) (m:Nat) (r:T V) (st:St):Prop where
 w:ay N st.w=[]
 ad:ab h N st.h (N+1)
 n:st.n=N+1
 ex:∃k out c,k+m=lb.length/\r.get 8=some (.int .i64 k)/\st.h.get N=some (.cells (dI out) 3 true)/\out.length=la.length+lb.length/\r.get 7=some (.int .i64 c)/\0<=c/\c<1000000000/\Di out/\(∀t,i+lb.length<=t->t<out.length->out[t]?=some 0)/\vI out+pI (i+k)*c=vI zaN+pI i*(a*vI (lb.take k))
structure MuA (h:T O) (N:Nat) (la lb:List Int) (m:Nat) (r:T V) (st:St):Prop where
 w:ay N st.w=[]
 ad:ab h N st.h (N+1)
 n:st.n=N+1
 ex:∃i out,i+m=la.length/\r.get 6=some (.int .i64 i)/\st.h.get N=some (.cells (dI out) 3 true)/\out.length=la.length+lb.length/\Di out/\(∀t,i+lb.length<=t->t<out.length->out[t]?=some 0)/\vI out=vI (la.take i)*vI lb
def Zxp{h:T O}{N:Nat}{u v:V}{la lb:List Int}{a b:Nat}(hu:Sl h N u (dI la))(hv:Sl h N v (dI lb))(da:Di la)(db:Di lb)(ea:vI la=a)(eb:vI lb=b)(hl:la.length+lb.length<1099511627776):Fn A.C 157 [u,v] h N (fun x h' n'=>Dn h' n' x (a*b)):=by
 intro w;have lu:=hu.len;have lv:=hv.len;rw[h_]at lu lv;rw[aQ,A.k157 (by simp)];have cs:((la.length:Int)+(lb.length:Int)).toNat=la.length+lb.length:=by omega
 simp(disch:=first|(simp;done)|omega|rfl) [A.b157,lu,lv,cs];refine b_ [(6,9),(16,69)] (fun e r st=>e=.exit 0/\MuA h N la lb 0 r st) (MuA h N la lb) la.length ?_ ?_ ?_
 ·refine⟨by simp,ab.refl.new _,rfl,0,List.replicate (la.length+lb.length) 0,by omega,by simp,by simp[Zt6],by simp,Di.GA _,fun t _ ht=>?_,by simp[Zst,vI]⟩;simp at ht;simp[ht]
 ·rintro m r ⟨H,n1,W⟩ hr hf ⟨hW,hK,hn,i,out,hi,h6,aA,iM,jF,hz,nP⟩;simp only at hW hK hn aA;subst hn;rw[bu];cases m with
  |zero=>
   have:i=la.length:=by omega
   subst this;simp[A.uo,hr,hf,h6,lu];exact⟨hW,hK,rfl,la.length,out,by omega,by simp[h6],aA,iM,jF,hz,nP⟩
  |succ m=>
   obtain⟨x,hx⟩:=bj (l:=la) (k:=i) (by omega);obtain⟨b1,b2,b3,b4,b5,z1,z2,z3,z4⟩:=hu.at (iB hx);have z3:=(hK.get _ z2).trans z3;have Rl:=da.get hx;have AT:(i:Int)<(la.length:Int):=by omega
   have PV:i<la.length:=by omega
   simp[A.uo,hr,h6,AT,lu];refine b_ [(7,9),(22,54)] (fun e r st=>e=.exit 2/\MuB h N la lb i out x 0 r st) (MuB h N la lb i out x) lb.length ?_ ?_ ?_
   ·exact⟨hW,hK,rfl,0,out,0,by omega,by simp,aA,iM,by simp,by omega,by omega,jF,hz,by simp[vI]⟩
   ·rintro m2 r2 ⟨H2,n2,W2⟩ dJ ef ⟨fY,qj,fV,k,qy,c,hk,h8,sU,FC,h7,c0,c1,nw,eQ,jQ⟩;simp only at fY qj fV sU;subst fV;rw[bu];cases m2 with
    |zero=>
     have:k=lb.length:=by omega
     subst this;simp[A.uk,hr,dJ,ef,h8,lv];exact⟨fY,qj,rfl,lb.length,qy,c,by omega,by simp[h8],sU,FC,by simp[h7],c0,c1,nw,eQ,jQ⟩
    |succ m2=>
     obtain⟨y,hy⟩:=bj (l:=lb) (k:=k) (by omega);obtain⟨g1,g2,g3,g4,g5,y1,y2,y3,y4⟩:=hv.at (iB hy);have y3:=(qj.get _ y2).trans y3;have z3:=(qj.get _ z2).trans ((hK.get _ z2).symm.trans z3);have MS:=db.get hy;obtain⟨o,ho⟩:=bj (l:=qy) (k:=i+k) (by omega);have hod:=nw.get ho;have cK:(k:Int)<(lb.length:Int):=by omega
     have kh:k<lb.length:=by omega
     have p0:0<=x*y:=yY Rl.1 MS.1;have p1:x*y<=999999999*999999999:=Int.mul_le_mul (by omega) (by omega) MS.1 (by omega);have q1:(i:Int)+(k:Int)<(la.length:Int)+(lb.length:Int):=by omega
     have q2:i+k<la.length+lb.length:=by omega
     have q3:(0:Int)<=(i:Int)+(k:Int):=by omega
     have t1:(o+x*y+c).tmod 1000000000=(o+x*y+c)%1000000000:=Gg (by omega);have t2:(o+x*y+c).tdiv 1000000000=(o+x*y+c)/1000000000:=Dh (by omega);have w8:=h_ qy;have w7:=Dy (l:=qy) (k:=i+k) (v:=(o+x*y+c)%1000000000) (by omega);have e1:vI (qy.set (i+k) ((o+x*y+c)%1000000000))+pI (i+(k+1))*((o+x*y+c)/1000000000)=vI out+pI i*(x*vI (lb.take (k+1))):=by
      have hm:=Gj (o+x*y+c) 1000000000;rw[EK ho,AO hy,show i+(k+1)=(i+k)+1 by omega,xH];have hp:=T1 i k;generalize (o+x*y+c)/1000000000=Q at*;generalize (o+x*y+c)%1000000000=R at*;have:R=o+x*y+c-1000000000*Q:=by omega
      rw[this];have h3:vI qy=vI out+pI i*(x*vI (lb.take k))-pI (i+k)*c:=by omega
      rw[h3,hp];grind
     generalize hP:x*y=P at*;have b1':bn .i64 P=P:=cL (by omega) (by omega);have b2':bn .i64 (o+P)=o+P:=cL (by omega) (by omega);have b3':bn .i64 (o+P+c)=o+P+c:=cL (by omega) (by omega);have b4':bn .i64 ((o+P+c)/1000000000)=(o+P+c)/1000000000:=cL (by omega) (by omega);have f1:b1<N+1:=by omega
     have f2:g1<N+1:=by omega
     have r0:=Gl (o+P+c) (b:=1000000000) (by decide);have r1:=Gf (o+P+c) (b:=1000000000) (by decide);have d0:0<=(o+P+c)/1000000000:=Int.ediv_nonneg (by omega) (by decide);have d1:(o+P+c)/1000000000<1000000000:=Int.ediv_lt_of_lt_mul (by decide) (by omega);simp(disch:=first|(simp;done)|omega|rfl) [-getElem?_pos,A.uk,hr,dJ,ef,h6,h7,h8,lu,lv,cK,sU,iB ho,z1,z3,z4,y1,y3,y4,hP,b1',b2',b3',b4',t1,t2,w7,f1,f2];refine⟨m2,by omega,⟨by simp[ay,fY],qj.set (aM N),rfl,k+1,_,_,by omega,by simp,by simp,by simp[FC],by simp,d0,d1,nw.set r0 r1,fun t ht1 zr=>?_,e1⟩⟩;rw[eW (by omega)];exact eQ t ht1 (by simpa using zr)
   rintro _ r2 ⟨H2,n2,W2⟩ dJ ⟨rfl,fY,qj,fV,k,qy,c,hk,h8,sU,FC,h7,c0,c1,nw,eQ,jQ⟩;simp only at fY qj fV sU;subst fV;have:k=lb.length:=by omega
   subst this;have ho:=eQ (i+lb.length) (by omega) (by omega);have VL:=hf.inner (D':=[(7,9),(22,54)]) rfl (by simp) dJ;have q1:(i:Int)+(lb.length:Int)<(la.length:Int)+(lb.length:Int):=by omega
   have q2:i+lb.length<la.length+lb.length:=by omega
   have q3:(0:Int)<=(i:Int)+(lb.length:Int):=by omega
   have w8:=h_ qy;have w7:=Dy (l:=qy) (k:=i+lb.length) (v:=c) (by omega);rw[Dj]at jQ;have e1:vI (qy.set (i+lb.length) c)=vI (la.take (i+1))*vI lb:=by
    rw[EK ho,AO hx];have:vI qy+pI (i+lb.length)*(c-0)=vI out+pI i*(x*vI lb):=by rw[Int.sub_zero];exact jQ
    rw[this,nP];grind
   simp(disch:=first|(simp;done)|omega|rfl) [-getElem?_pos,hr,dJ,h6,h7,lv,sU,iB ho,w7,VL];refine⟨m,by omega,⟨by simp[ay,fY],qj.set (aM N),rfl,i+1,_,by omega,by simp,by simp,by simp[FC],nw.set c0 c1,fun t ht1 zr=>?_,e1⟩⟩;rw[eW (by omega)];exact eQ t (by omega) (by simpa using zr)
 rintro _ r ⟨H,n1,W⟩ hr ⟨rfl,hW,hK,hn,i,out,hi,h6,aA,iM,jF,hz,nP⟩;simp only at hW hK hn aA;subst hn;have:i=la.length:=by omega
 subst this;rw[Dj,ea,eb]at nP;have nR:Sl H (N+1) (.slice N 0 (la.length+lb.length) (some (la.length+lb.length)) 1) (dI out):=Sl.row (by omega) aA (by simp[iM]) (fun k hk=>by simp at hk;omega);simp[hr];refine ar (JP nR (by omega)) ?_;rintro y h2 n2 k2 hy;rw[Jr jF (n:=a*b) (by rw[nP];simp)]at hy;simp[az,hW];exact⟨hK.trans k2,hy⟩
open Go
variable {N i n n1:Nat} {h h1:T O} {r:T V} {v:V} {w:List Nat}
structure dR (D:Nat->Prop) (h:T O) (n:Nat) (h':T O) (n':Nat):Prop where
 le:n<=n'
 get:∀i,i<n->¬D i->h'.get i=h.get i
def dR.refl{D:Nat->Prop}:dR D h n h n:=⟨aM _,fun _ _ _=>rfl⟩
def ab.upd{D:Nat->Prop}{h':T O}{n':Nat}(k:ab h n h' n'):dR D h n h' n':=⟨k.le,fun i hi _=>k.get i hi⟩
def dR.trans{D:Nat->Prop}{h2:T O}{n2:Nat}(a:dR D h n h1 n1)(b:dR D h1 n1 h2 n2):dR D h n h2 n2:=
 ⟨iZ a.le b.le,fun i hi hd=>(b.get i (fg hi a.le) hd).trans (a.get i hi hd)⟩
def dR.mono{D D2:Nat->Prop}(a:dR D h n h1 n1)(hd:∀i,i<n->D i->D2 i):dR D2 h n h1 n1:=⟨a.le,fun i hi hn=>a.get i hi fun hc=>hn (hd i hi hc)⟩
def dR.set{D:Nat->Prop}{o:O}(a:dR D h n h1 n1)(hi:D i\/n<=i):dR D h n (h1.set i o) n1:=
 ⟨a.le,fun j hj hd=>by
  rw[T.ag,ak ?_]
  ·exact a.get j hj hd
  ·rintro rfl
   rcases hi with hi|hi
   ·exact hd hi
   ·omega⟩
def dR.up{D:Nat->Prop}{n2:Nat}(a:dR D h n h1 n1)(hn:n1<=n2):dR D h n h1 n2:=⟨iZ a.le hn,a.get⟩
def dR.new{D:Nat->Prop}(a:dR D h n h1 n1)(o:O):dR D h n (h1.set n1 o) (n1+1):=(a.set (.inr a.le)).up (xf _)
def dR.keeps{D:Nat->Prop}{m:Nat}(a:dR D h n h1 n1)(hm:m<=n)(hd:∀i,D i->m<=i):ab h m h1 n1:=⟨iZ hm a.le,fun i hi=>a.get i (fg hi hm) fun hc=>by have:=hd i hc;omega⟩
def CV{N i:Nat}:∀{w:List Nat},i∈ay N w->i∈w/\i<N
 |[],h=>by simp[ay]at h
 |j::w,h=>by
  simp only[ay]at h
  split at h
  ·unfold Ac at h
   split at h
   ·have:=CV h;exact⟨ri _ this.1,this.2⟩
   ·rcases ky.1 h with h|h
    ·subst h;exact⟨rI,by assumption⟩
    ·have:=CV h;exact⟨ri _ this.1,this.2⟩
  ·have:=CV h;exact⟨ri _ this.1,this.2⟩
def Ycw:ay N []=[]:=rfl
attribute [simp] Ycw
def HX(h:∀i∈w,N<=i):ay N w=[]:=Zr1 h
def qz(st:St)(i:Nat)(send:Option V)(zero:V):Option O->Option (V×St)
 |some (.chan cap buf)=>match send with
  |some v=>if buf.length<cap then some (.aX [.int .i64 0,.bool false],st.write i (.chan cap (buf++[v]))) else some (.aX [.int .i64 (-1),.bool false],st)
  |none=>match buf with
   |v::buf=>some (.aX [.int .i64 0,.bool true,v],st.write i (.chan cap buf))
   |[]=>some (.aX [.int .i64 (-1),.bool false,zero],st)
 |_=>none
def Yww{st:St}{send:Option V}{zero:V}:Yzn st i send zero=qz st i send zero (st.h.get i):=by
 unfold Yzn qz;rcases st.h.get i with _|o
 ·rfl
 cases o with
 |chan cap buf=>cases send with
  |some v=>rfl
  |none=>cases buf<;>rfl
 |_=>cases send<;>rfl
def VM(C:Cx)(K:List Kf)(Q:Rs->Prop)(d:Nat)(ops:List dP)(r:T V)(n:Nat)(m:List Nat):Option (V×St)->Prop
 |some (v,b9)=>bE C (.gw::K) (DE (dX C.call ops ⟨r.set d v,n,m⟩ b9)) Q
 |none=>False
def Yzo(C:Cx)(K:List Kf)(Q:Rs->Prop)(d:Nat)(ops:List dP)(r:T V)(n:Nat)(m:List Nat)(st:St)(zero:V):Option V->Option (Option V)->Prop
 |some (.chan i),some sv=>VM C K Q d ops r n m (qz st i sv zero (st.h.get i))
 |_,_=>False
def Ylp{C:Cx}{K:List Kf}{Q:Rs->Prop}{ro:Option Nat}{d:Nat}{ch:Src}{send:Option Src}{zero:V}{ops:List dP}{m:List Nat}{st:St}(hd:d<n):bE C K (fl (C.code ro (.zW (some d) ch send zero ops) ⟨r,n,m⟩ st)) Q↔Yzo C K Q d ops r n m st zero (ch.ev r) (aC r send):=by
 have e:C.code ro (.zW (some d) ch send zero ops) ⟨r,n,m⟩ st=Dt (some d) ch send zero ops C.call C.code ro ⟨r,n,m⟩ st:=Cx.dB ..;rw[e];unfold Dt Yzo;simp only[];rcases ch.ev r with _|v
 ·exact Mn
 cases v<;>try exact Mn
 rename_i i;rcases aC r send with _|sv
 ·exact Mn
 simp only[Yww];rcases qz st i sv zero (st.h.get i)with _|⟨v,b9⟩
 ·exact Mn
 simp only[Fr.put,hd,if_true,VM];refine jM ?_;show _=jt C K (nC C .gw (DE (dX C.call ops ⟨r.set d v,n,m⟩ b9)));rcases dX C.call ops ⟨r.set d v,n,m⟩ b9 with _|⟨_,_⟩<;>rfl
def Yfx{C K Q d ops r n m st zero i sv}:Yzo C K Q d ops r n m st zero (some (.chan i)) (some sv)=VM C K Q d ops r n m (qz st i sv zero (st.h.get i)):=rfl
def Yfw{C K Q d ops r n m v b9}:VM C K Q d ops r n m (some (v,b9))=bE C (.gw::K) (DE (dX C.call ops ⟨r.set d v,n,m⟩ b9)) Q:=rfl
def Ycj{st:St}{cap:Nat}{buf:List V}{zero:V}:qz st i none zero (some (.chan cap (v::buf)))=some (.aX [.int .i64 0,.bool true,v],st.write i (.chan cap buf)):=rfl
def Yfv{st:St}{cap:Nat}{zero:V}:qz st i none zero (some (.chan cap []))=some (.aX [.int .i64 (-1),.bool false,zero],st):=rfl
attribute [simp] Ylp Yfx Yfw Ycj Yfv
def VN(st:St)(bytes:Nat):Option V->Option (V×St)
 |some (.int _ k)=>if k<0\/k > IntKind.i64.max\/bytes*k > 2^48-112 then none else some (.chan st.n,st.alloc (.chan k.toNat []))
 |_=>none
def Zxx{bytes:Nat}{x:Src}{call:cO}{st:St}:Gt bytes x call r st=VN st bytes (x.ev r):=by unfold Gt VN;rfl
def Ydd{st:St}{kk:IntKind}{k:Int}(h0:0<=k)(h1:k<=100):VN st 16 (some (.int kk k))=some (.chan st.n,st.alloc (.chan k.toNat [])):=by unfold VN;simp only[];rw[ak];have:IntKind.i64.max=9223372036854775807:=rfl;omega
attribute [simp] Zxx Ydd
def dm:V->List Nat
 |.slice i _ _ _ _=>[i]
 |_=>[]
def Sl.cf{D:Nat->Prop}{h':T O}{N':Nat}{l:List V}(s:Sl h N v l)(k:dR D h N h' N')(hd:∀i∈dm v,¬D i):Sl h' N' v l:=by
 rcases s with s|⟨i,o,cp,c,e,rw,rfl,h2,h3,h4⟩
 ·exact .inl s
 exact .inr ⟨i,o,cp,c,e,rw,rfl,fg h2 k.le,(k.get i h2 (hd i (by simp[dm]))).trans h3,h4⟩
def Row(z:Nat)(e:TypeId)(h:T O)(v:V)(l:List (List V)):Prop:=(∀x∈l,x.length=z)/\((l=[]/\v=.aa)\/∃i x m,v=.slice i 0 l.length none z/\x.length=m*z/\h.get i=some (.cells (l.flatten++x) e true))
def MQ(l:List (List V))(x:List V):(l++[x]).flatten=l.flatten++x:=by simp
def Yyp(st:St)(size:Nat)(zero:List V):Option V->Option (V×St)
 |some v=>LX size zero (.const v) Zuc .nil st
 |none=>none
structure Xc4 (z bytes:Nat) (e:TypeId) (zero:List V) (h:T O) (N:Nat) (v:V) (l:List (List V)) (k:Nat) (v1 v2 v3 v4:V) (h3 h4:T O) (w3:List Nat):Prop where
 a:∀w,∃u,oz ⟨h,N,w⟩ z (some v) (some (some (.int .i64 k))) (some (some (.int .i64 ((k:Int)+1)))) (some (some (.int .i64 l.length)))=some (u,⟨h,N,w⟩)
 b:∀w,oz ⟨h,N,w⟩ z (some v) (some none) (some (some (.int .i64 k))) (some none)=some (v1,⟨h,N,w⟩)
 c:∀w,oz ⟨h,N,w⟩ z (some v) (some (some (.int .i64 ((k:Int)+1)))) (some none) (some none)=some (v2,⟨h,N,w⟩)
 d:∀w,oc ⟨h,N,w⟩ z bytes e v1 v2=some (v3,⟨h3,N,w3++w⟩)
 len:qQ v3=some (l.length-1)
 f:∀w,oz ⟨h3,N,w⟩ z (some v3) (some (some (.int .i64 ((l.length-1:Nat):Int)))) (some (some (.int .i64 l.length))) (some none)=some (v4,⟨h3,N,w⟩)
 g:∀w,∃i,i∈dm v/\Yyp ⟨h3,N,w⟩ z zero (some v4)=some (.aX [],⟨h4,N,i::w⟩)
 w:∀i∈w3,i∈dm v
 upd:dR (fun i=>i∈dm v) h N h4 N
 ids:dm v3=dm v
 row:Row z e h4 v3 (l.take k++l.drop (k+1))
def KG(st:St)(size:Nat):Option V->Option V->Option (V×St)
 |some d,some s=>Dp size (.const d) (.const s) Zuc .nil st
 |_,_=>none
def Yg2{size:Nat}{d s:Src}{call:cO}{st:St}:Dp size d s call r st=KG st size (d.ev r) (s.ev r):=by
 unfold Dp KG;rcases d.ev r with _|d
 ·rfl
 rcases s.ev r with _|s<;>rfl
def Yeg{cp:Option Nat}{c xs:List V}{e:TypeId}{s:V}(hn:0<n)(hs:fQ ⟨h,N,w⟩ 1 s=some (n,xs))(hx:xs.length=n)(hg:h.get i=some (.cells c e true))(hc:c.length=n):KG ⟨h,N,w⟩ 1 (some (.slice i 0 n cp 1)) (some s)=some (.int .i64 n,⟨h.set i (.cells xs e true),N,i::w⟩):=by
 have jy:¬n=0:=by omega
 have hd:c.drop n=[]:=List.drop_of_length_le (by omega);have ht:xs.take n=xs:=fU (by omega);simp only[KG,Dp,Src.ev,hs,St.row,hg];simp[jy,hc,ae,St.write,ht,hx,hd]
def Yjz{cp:Option Nat}{xs:List V}{s:V}(hs:fQ ⟨h,N,w⟩ 1 s=some (0,xs)):KG ⟨h,N,w⟩ 1 (some (.slice i 0 0 cp 1)) (some s)=some (.int .i64 0,⟨h,N,w⟩):=by simp only[KG,Dp,Src.ev,hs];simp
attribute [simp] Yg2
def n_(e:TypeId)(Y:V->Prop)(h:T O)(u:V):Prop:=∀i∈dm u,∃z,h.get i=some (.cells z e true)/\z≠[]/\∀y∈z,Y y
def n_.nil{e:TypeId}{Y:V->Prop}:n_ e Y h .aa:=fun i hi=>by simp[dm]at hi
def FT{z:Nat}{e:TypeId}{N0:Nat}{u:V}{l:List (List V)}{x:List V}{bytes:Nat}{Y:V->Prop}(s:Own z e N0 h N v l)(hn:l=[]->v=.aa)(hY:∀c∈l,∀y∈c,Y y)(hN:N0<=N)(hz:0<z)(hx:x.length=z)
  (hu:fQ ⟨h,N,w⟩ z u=some (1,x)) (hb:2*(l.length+1)*bytes<=281474976710656):
  ∃v' h' w',oc ⟨h,N,w⟩ z bytes e v u=some (v',⟨h',N+1,w'⟩)/\ay N0 w'=ay N0 w/\ab h N0 h' (N+1)/\dR (fun i=>i∈dm v) h N h' (N+1)/\n_ e Y h v/\Own z e N0 h' (N+1) v' (l++[x]):=by
 obtain⟨v',h',w',f1,f2,f3,f4,f5⟩:=Ao s hN hz hx hu hb;refine⟨v',h',w',f1,f2,f3,⟨xf _,fun j hj hd=>?_⟩,fun i hi=>?_,f5⟩
 ·rcases f4 j with h1|h1|⟨o,n,c,q,h1⟩
  ·exact h1
  ·omega
  exact absurd (by rw[h1];simp[dm]) hd
 obtain⟨hl,⟨rfl,rfl⟩|⟨j,rfl,h2,h3,h4⟩⟩:=s
 ·simp[dm]at hi
 simp only[dm,u9]at hi;subst hi;refine⟨_,h4,fun hc=>?_,fun y hy=>?_⟩
 ·have jr:=yN hl;rw[hc]at jr;have:l.length=0:=by
   rcases Nat.mul_eq_zero.1 jr.symm with h|h
   ·exact h
   omega
  have:=hn (th this);cases this
 obtain⟨c,hc,Ip⟩:=List.mem_flatten.1 hy;exact hY c hc y Ip
end
end Go.Mx
